/-
  DERIVED. GIVEN WITH THE SEED: THE CARDS: each row of YtgpolhlmedmloaaGreatDoorRows.lean that lists a variable, with what it lists TIED to the program's text (the seventh form; the later family's looks); each row that meets fmt, with fmt's text TOLD by the authors' own Lean function (tested against real Go, not proved from fmt's source: count such statements apart). THE CARD IS WHAT COUNTS. Prove the row's statement (the work); the ties are given (YtgpolhlmedmloaaGreatDoorTie.lean); close each card by the builder's one call (the guide's Derived/Test/ToyasCard.lean, 'card_holds'). Laid BY PROGRAM, IN A SANDBOX (cutbox-door.mjs). By AI agents, Wed Nov 11 2026. No macro, syntax, notation, axiom, sorry.
-/
import Derived.Test.YtgpolhlmedmloaaGreatDoorRows
import GoSem.ClaimSeven
namespace Go.Proofs.YtgpolhlmedmloaaGreatDoor
namespace Rows

/-- THE TIED CARD OF 'laws.FnBoxNew'. -/
def fnBoxNewCard : Claim7 := { stood := { row := fnBoxNewRow, standIns := [], harness := (true, "2dc6526bcfa5af4fbf2527c00771dcf5ca73c138d17425a32b22a75abae682ff"), looks := true }, kinds := [], alts := [], laidByText := true, laidKinds := [.data, .data, .data, .sentinel, .sentinel, .sentinel], laidTests := true, laidLooks := .later }
def FnBoxNewCardSaid : Prop := Claim7.holds Tryz.pinned (.plain (OpenSpec.ofChange fnBoxNewSpec)) fnBoxNewCard

/-- THE TIED CARD OF 'laws.FnExactBoxOk'. -/
def fnExactBoxOkCard : Claim7 := { stood := { row := fnExactBoxOkRow, standIns := [], harness := (true, "2dc6526bcfa5af4fbf2527c00771dcf5ca73c138d17425a32b22a75abae682ff"), looks := true }, kinds := [], alts := [], laidByText := true, laidKinds := [.data, .data, .data, .sentinel, .sentinel, .sentinel], laidTests := true, laidLooks := .later }
def FnExactBoxOkCardSaid : Prop := Claim7.holds Tryz.pinned (.plain (OpenSpec.ofChange fnExactBoxOkSpec)) fnExactBoxOkCard

/-- THE TIED CARD OF 'laws.FnExactBoxFar'. -/
def fnExactBoxFarCard : Claim7 := { stood := { row := fnExactBoxFarRow, standIns := [], harness := (true, "2dc6526bcfa5af4fbf2527c00771dcf5ca73c138d17425a32b22a75abae682ff"), looks := true }, kinds := [], alts := [], laidByText := true, laidKinds := [.data, .data, .data, .sentinel, .sentinel, .sentinel], laidTests := true, laidLooks := .later }
def FnExactBoxFarCardSaid : Prop := Claim7.holds Tryz.pinned (.plain (OpenSpec.ofChange fnExactBoxFarSpec)) fnExactBoxFarCard

/-- THE TIED CARD OF 'laws.FnBoxOk'. -/
def fnBoxOkCard : Claim7 := { stood := { row := fnBoxOkRow, standIns := [], harness := (true, "2dc6526bcfa5af4fbf2527c00771dcf5ca73c138d17425a32b22a75abae682ff"), looks := true }, kinds := [], alts := [], laidByText := true, laidKinds := [.data, .data, .data, .sentinel, .sentinel, .sentinel], laidTests := true, laidLooks := .later }
def FnBoxOkCardSaid : Prop := Claim7.holds Tryz.pinned (.plain (OpenSpec.ofChange fnBoxOkSpec)) fnBoxOkCard

/-- THE TIED CARD OF 'laws.FnExactBoxTurn'. -/
def fnExactBoxTurnCard : Claim7 := { stood := { row := fnExactBoxTurnRow, standIns := [], harness := (true, "2dc6526bcfa5af4fbf2527c00771dcf5ca73c138d17425a32b22a75abae682ff"), looks := true }, kinds := [], alts := [], laidByText := true, laidKinds := [.data, .data, .data, .sentinel, .sentinel, .sentinel], laidTests := true, laidLooks := .later }
def FnExactBoxTurnCardSaid : Prop := Claim7.holds Tryz.pinned (.plain (OpenSpec.ofChange fnExactBoxTurnSpec)) fnExactBoxTurnCard

/-- THE TIED CARD OF 'laws.FnBoxPlain'. -/
def fnBoxPlainCard : Claim7 := { stood := { row := fnBoxPlainRow, standIns := [], harness := (true, "2dc6526bcfa5af4fbf2527c00771dcf5ca73c138d17425a32b22a75abae682ff"), looks := true }, kinds := [], alts := [], laidByText := true, laidKinds := [.data, .data, .data, .sentinel, .sentinel, .sentinel], laidTests := true, laidLooks := .later }
def FnBoxPlainCardSaid : Prop := Claim7.holds Tryz.pinned (.plain (OpenSpec.ofChange fnBoxPlainSpec)) fnBoxPlainCard

/-- THE TIED CARD OF 'laws.FnBoxTurn'. -/
def fnBoxTurnCard : Claim7 := { stood := { row := fnBoxTurnRow, standIns := [], harness := (true, "2dc6526bcfa5af4fbf2527c00771dcf5ca73c138d17425a32b22a75abae682ff"), looks := true }, kinds := [], alts := [], laidByText := true, laidKinds := [.data, .data, .data, .sentinel, .sentinel, .sentinel], laidTests := true, laidLooks := .later }
def FnBoxTurnCardSaid : Prop := Claim7.holds Tryz.pinned (.plain (OpenSpec.ofChange fnBoxTurnSpec)) fnBoxTurnCard

/-- THE SECOND FORM's CARD OF 'laws.FnBoxNew'. -/
def fnBoxNewUptoCard : Claim7 := { stood := { row := fnBoxNewUptoRow, standIns := [], harness := (true, "2dc6526bcfa5af4fbf2527c00771dcf5ca73c138d17425a32b22a75abae682ff"), looks := true }, kinds := [], alts := [], laidByText := true, laidKinds := [.data, .data, .data, .sentinel, .sentinel, .sentinel], laidTests := true, laidLooks := .later }
def FnBoxNewUptoCardSaid : Prop := Claim7.holds Tryz.pinned (.plain (OpenSpec.upto fnBoxNewSpec)) fnBoxNewUptoCard

/-- THE SECOND FORM's CARD OF 'laws.FnExactBoxOk'. -/
def fnExactBoxOkUptoCard : Claim7 := { stood := { row := fnExactBoxOkUptoRow, standIns := [], harness := (true, "2dc6526bcfa5af4fbf2527c00771dcf5ca73c138d17425a32b22a75abae682ff"), looks := true }, kinds := [], alts := [], laidByText := true, laidKinds := [.data, .data, .data, .sentinel, .sentinel, .sentinel], laidTests := true, laidLooks := .later }
def FnExactBoxOkUptoCardSaid : Prop := Claim7.holds Tryz.pinned (.plain (OpenSpec.upto fnExactBoxOkSpec)) fnExactBoxOkUptoCard

/-- THE SECOND FORM's CARD OF 'laws.FnExactBoxFar'. -/
def fnExactBoxFarUptoCard : Claim7 := { stood := { row := fnExactBoxFarUptoRow, standIns := [], harness := (true, "2dc6526bcfa5af4fbf2527c00771dcf5ca73c138d17425a32b22a75abae682ff"), looks := true }, kinds := [], alts := [], laidByText := true, laidKinds := [.data, .data, .data, .sentinel, .sentinel, .sentinel], laidTests := true, laidLooks := .later }
def FnExactBoxFarUptoCardSaid : Prop := Claim7.holds Tryz.pinned (.plain (OpenSpec.upto fnExactBoxFarSpec)) fnExactBoxFarUptoCard

/-- THE SECOND FORM's CARD OF 'laws.FnBoxOk'. -/
def fnBoxOkUptoCard : Claim7 := { stood := { row := fnBoxOkUptoRow, standIns := [], harness := (true, "2dc6526bcfa5af4fbf2527c00771dcf5ca73c138d17425a32b22a75abae682ff"), looks := true }, kinds := [], alts := [], laidByText := true, laidKinds := [.data, .data, .data, .sentinel, .sentinel, .sentinel], laidTests := true, laidLooks := .later }
def FnBoxOkUptoCardSaid : Prop := Claim7.holds Tryz.pinned (.plain (OpenSpec.upto fnBoxOkSpec)) fnBoxOkUptoCard

/-- THE SECOND FORM's CARD OF 'laws.FnExactBoxTurn'. -/
def fnExactBoxTurnUptoCard : Claim7 := { stood := { row := fnExactBoxTurnUptoRow, standIns := [], harness := (true, "2dc6526bcfa5af4fbf2527c00771dcf5ca73c138d17425a32b22a75abae682ff"), looks := true }, kinds := [], alts := [], laidByText := true, laidKinds := [.data, .data, .data, .sentinel, .sentinel, .sentinel], laidTests := true, laidLooks := .later }
def FnExactBoxTurnUptoCardSaid : Prop := Claim7.holds Tryz.pinned (.plain (OpenSpec.upto fnExactBoxTurnSpec)) fnExactBoxTurnUptoCard

/-- THE SECOND FORM's CARD OF 'laws.FnBoxPlain'. -/
def fnBoxPlainUptoCard : Claim7 := { stood := { row := fnBoxPlainUptoRow, standIns := [], harness := (true, "2dc6526bcfa5af4fbf2527c00771dcf5ca73c138d17425a32b22a75abae682ff"), looks := true }, kinds := [], alts := [], laidByText := true, laidKinds := [.data, .data, .data, .sentinel, .sentinel, .sentinel], laidTests := true, laidLooks := .later }
def FnBoxPlainUptoCardSaid : Prop := Claim7.holds Tryz.pinned (.plain (OpenSpec.upto fnBoxPlainSpec)) fnBoxPlainUptoCard

/-- THE SECOND FORM's CARD OF 'laws.FnBoxTurn'. -/
def fnBoxTurnUptoCard : Claim7 := { stood := { row := fnBoxTurnUptoRow, standIns := [], harness := (true, "2dc6526bcfa5af4fbf2527c00771dcf5ca73c138d17425a32b22a75abae682ff"), looks := true }, kinds := [], alts := [], laidByText := true, laidKinds := [.data, .data, .data, .sentinel, .sentinel, .sentinel], laidTests := true, laidLooks := .later }
def FnBoxTurnUptoCardSaid : Prop := Claim7.holds Tryz.pinned (.plain (OpenSpec.upto fnBoxTurnSpec)) fnBoxTurnUptoCard
end Rows
end Go.Proofs.YtgpolhlmedmloaaGreatDoor
