/-
  DERIVED. GIVEN WITH THE SEED: THE CARDS: each row of YtakfmcpjnkagmaaGreatDoorRows.lean that lists a variable, with what it lists TIED to the program's text (the seventh form; the later family's looks); each row that meets fmt, with fmt's text TOLD by the authors' own Lean function (tested against real Go, not proved from fmt's source: count such statements apart). THE CARD IS WHAT COUNTS. Prove the row's statement (the work); the ties are given (YtakfmcpjnkagmaaGreatDoorTie.lean); close each card by the builder's one call (the guide's Derived/Test/ToyasCard.lean, 'card_holds'). Laid BY PROGRAM, IN A SANDBOX (cutbox-door.mjs). By AI agents, Wed Nov 11 2026. No macro, syntax, notation, axiom, sorry.
-/
import Derived.Test.YtakfmcpjnkagmaaGreatDoorRows
import GoSem.ClaimSeven
namespace Go.Proofs.YtakfmcpjnkagmaaGreatDoor
namespace Rows

/-- THE TIED CARD OF 'laws.FnExactPosOut'. -/
def fnExactPosOutCard : Claim7 := { stood := { row := fnExactPosOutRow, standIns := [], harness := (true, "433255b86ce5831b13831b272b5eaee0ea5713826301bf4600b491f4ba6637cd"), looks := true }, kinds := [], alts := [], laidByText := true, laidKinds := [.data, .data, .data, .sentinel, .sentinel, .sentinel], laidTests := true, laidLooks := .later }
def FnExactPosOutCardSaid : Prop := Claim7.holds Tryz.pinned (.plain (OpenSpec.ofChange fnExactPosOutSpec)) fnExactPosOutCard

/-- THE TIED CARD OF 'laws.FnExactPosBack'. -/
def fnExactPosBackCard : Claim7 := { stood := { row := fnExactPosBackRow, standIns := [], harness := (true, "433255b86ce5831b13831b272b5eaee0ea5713826301bf4600b491f4ba6637cd"), looks := true }, kinds := [], alts := [], laidByText := true, laidKinds := [.data, .data, .data, .sentinel, .sentinel, .sentinel], laidTests := true, laidLooks := .later }
def FnExactPosBackCardSaid : Prop := Claim7.holds Tryz.pinned (.plain (OpenSpec.ofChange fnExactPosBackSpec)) fnExactPosBackCard

/-- THE TIED CARD OF 'laws.FnExactPosSpans'. -/
def fnExactPosSpansCard : Claim7 := { stood := { row := fnExactPosSpansRow, standIns := [], harness := (true, "433255b86ce5831b13831b272b5eaee0ea5713826301bf4600b491f4ba6637cd"), looks := true }, kinds := [], alts := [], laidByText := true, laidKinds := [.data, .data, .data, .sentinel, .sentinel, .sentinel], laidTests := true, laidLooks := .later }
def FnExactPosSpansCardSaid : Prop := Claim7.holds Tryz.pinned (.plain (OpenSpec.ofChange fnExactPosSpansSpec)) fnExactPosSpansCard

/-- THE TIED CARD OF 'laws.FnPosSpans'. -/
def fnPosSpansCard : Claim7 := { stood := { row := fnPosSpansRow, standIns := [], harness := (true, "433255b86ce5831b13831b272b5eaee0ea5713826301bf4600b491f4ba6637cd"), looks := true }, kinds := [], alts := [], laidByText := true, laidKinds := [.data, .data, .data, .sentinel, .sentinel, .sentinel], laidTests := true, laidLooks := .later }
def FnPosSpansCardSaid : Prop := Claim7.holds Tryz.pinned (.plain (OpenSpec.ofChange fnPosSpansSpec)) fnPosSpansCard

/-- THE TIED CARD OF 'laws.FnPosOut'. -/
def fnPosOutCard : Claim7 := { stood := { row := fnPosOutRow, standIns := [], harness := (true, "433255b86ce5831b13831b272b5eaee0ea5713826301bf4600b491f4ba6637cd"), looks := true }, kinds := [], alts := [], laidByText := true, laidKinds := [.data, .data, .data, .sentinel, .sentinel, .sentinel], laidTests := true, laidLooks := .later }
def FnPosOutCardSaid : Prop := Claim7.holds Tryz.pinned (.plain (OpenSpec.ofChange fnPosOutSpec)) fnPosOutCard

/-- THE TIED CARD OF 'laws.FnPosLine'. -/
def fnPosLineCard : Claim7 := { stood := { row := fnPosLineRow, standIns := [], harness := (true, "433255b86ce5831b13831b272b5eaee0ea5713826301bf4600b491f4ba6637cd"), looks := true }, kinds := [], alts := [], laidByText := true, laidKinds := [.data, .data, .data, .sentinel, .sentinel, .sentinel], laidTests := true, laidLooks := .later }
def FnPosLineCardSaid : Prop := Claim7.holds Tryz.pinned (.plain (OpenSpec.ofChange fnPosLineSpec)) fnPosLineCard

/-- THE TIED CARD OF 'laws.FnPosPlain'. -/
def fnPosPlainCard : Claim7 := { stood := { row := fnPosPlainRow, standIns := [], harness := (true, "433255b86ce5831b13831b272b5eaee0ea5713826301bf4600b491f4ba6637cd"), looks := true }, kinds := [], alts := [], laidByText := true, laidKinds := [.data, .data, .data, .sentinel, .sentinel, .sentinel], laidTests := true, laidLooks := .later }
def FnPosPlainCardSaid : Prop := Claim7.holds Tryz.pinned (.plain (OpenSpec.ofChange fnPosPlainSpec)) fnPosPlainCard

/-- THE TIED CARD OF 'laws.FnPosBack'. -/
def fnPosBackCard : Claim7 := { stood := { row := fnPosBackRow, standIns := [], harness := (true, "433255b86ce5831b13831b272b5eaee0ea5713826301bf4600b491f4ba6637cd"), looks := true }, kinds := [], alts := [], laidByText := true, laidKinds := [.data, .data, .data, .sentinel, .sentinel, .sentinel], laidTests := true, laidLooks := .later }
def FnPosBackCardSaid : Prop := Claim7.holds Tryz.pinned (.plain (OpenSpec.ofChange fnPosBackSpec)) fnPosBackCard

/-- THE SECOND FORM's CARD OF 'laws.FnExactPosOut'. -/
def fnExactPosOutUptoCard : Claim7 := { stood := { row := fnExactPosOutUptoRow, standIns := [], harness := (true, "433255b86ce5831b13831b272b5eaee0ea5713826301bf4600b491f4ba6637cd"), looks := true }, kinds := [], alts := [], laidByText := true, laidKinds := [.data, .data, .data, .sentinel, .sentinel, .sentinel], laidTests := true, laidLooks := .later }
def FnExactPosOutUptoCardSaid : Prop := Claim7.holds Tryz.pinned (.plain (OpenSpec.upto fnExactPosOutSpec)) fnExactPosOutUptoCard

/-- THE SECOND FORM's CARD OF 'laws.FnExactPosBack'. -/
def fnExactPosBackUptoCard : Claim7 := { stood := { row := fnExactPosBackUptoRow, standIns := [], harness := (true, "433255b86ce5831b13831b272b5eaee0ea5713826301bf4600b491f4ba6637cd"), looks := true }, kinds := [], alts := [], laidByText := true, laidKinds := [.data, .data, .data, .sentinel, .sentinel, .sentinel], laidTests := true, laidLooks := .later }
def FnExactPosBackUptoCardSaid : Prop := Claim7.holds Tryz.pinned (.plain (OpenSpec.upto fnExactPosBackSpec)) fnExactPosBackUptoCard

/-- THE SECOND FORM's CARD OF 'laws.FnExactPosSpans'. -/
def fnExactPosSpansUptoCard : Claim7 := { stood := { row := fnExactPosSpansUptoRow, standIns := [], harness := (true, "433255b86ce5831b13831b272b5eaee0ea5713826301bf4600b491f4ba6637cd"), looks := true }, kinds := [], alts := [], laidByText := true, laidKinds := [.data, .data, .data, .sentinel, .sentinel, .sentinel], laidTests := true, laidLooks := .later }
def FnExactPosSpansUptoCardSaid : Prop := Claim7.holds Tryz.pinned (.plain (OpenSpec.upto fnExactPosSpansSpec)) fnExactPosSpansUptoCard

/-- THE SECOND FORM's CARD OF 'laws.FnPosSpans'. -/
def fnPosSpansUptoCard : Claim7 := { stood := { row := fnPosSpansUptoRow, standIns := [], harness := (true, "433255b86ce5831b13831b272b5eaee0ea5713826301bf4600b491f4ba6637cd"), looks := true }, kinds := [], alts := [], laidByText := true, laidKinds := [.data, .data, .data, .sentinel, .sentinel, .sentinel], laidTests := true, laidLooks := .later }
def FnPosSpansUptoCardSaid : Prop := Claim7.holds Tryz.pinned (.plain (OpenSpec.upto fnPosSpansSpec)) fnPosSpansUptoCard

/-- THE SECOND FORM's CARD OF 'laws.FnPosOut'. -/
def fnPosOutUptoCard : Claim7 := { stood := { row := fnPosOutUptoRow, standIns := [], harness := (true, "433255b86ce5831b13831b272b5eaee0ea5713826301bf4600b491f4ba6637cd"), looks := true }, kinds := [], alts := [], laidByText := true, laidKinds := [.data, .data, .data, .sentinel, .sentinel, .sentinel], laidTests := true, laidLooks := .later }
def FnPosOutUptoCardSaid : Prop := Claim7.holds Tryz.pinned (.plain (OpenSpec.upto fnPosOutSpec)) fnPosOutUptoCard

/-- THE SECOND FORM's CARD OF 'laws.FnPosLine'. -/
def fnPosLineUptoCard : Claim7 := { stood := { row := fnPosLineUptoRow, standIns := [], harness := (true, "433255b86ce5831b13831b272b5eaee0ea5713826301bf4600b491f4ba6637cd"), looks := true }, kinds := [], alts := [], laidByText := true, laidKinds := [.data, .data, .data, .sentinel, .sentinel, .sentinel], laidTests := true, laidLooks := .later }
def FnPosLineUptoCardSaid : Prop := Claim7.holds Tryz.pinned (.plain (OpenSpec.upto fnPosLineSpec)) fnPosLineUptoCard

/-- THE SECOND FORM's CARD OF 'laws.FnPosPlain'. -/
def fnPosPlainUptoCard : Claim7 := { stood := { row := fnPosPlainUptoRow, standIns := [], harness := (true, "433255b86ce5831b13831b272b5eaee0ea5713826301bf4600b491f4ba6637cd"), looks := true }, kinds := [], alts := [], laidByText := true, laidKinds := [.data, .data, .data, .sentinel, .sentinel, .sentinel], laidTests := true, laidLooks := .later }
def FnPosPlainUptoCardSaid : Prop := Claim7.holds Tryz.pinned (.plain (OpenSpec.upto fnPosPlainSpec)) fnPosPlainUptoCard

/-- THE SECOND FORM's CARD OF 'laws.FnPosBack'. -/
def fnPosBackUptoCard : Claim7 := { stood := { row := fnPosBackUptoRow, standIns := [], harness := (true, "433255b86ce5831b13831b272b5eaee0ea5713826301bf4600b491f4ba6637cd"), looks := true }, kinds := [], alts := [], laidByText := true, laidKinds := [.data, .data, .data, .sentinel, .sentinel, .sentinel], laidTests := true, laidLooks := .later }
def FnPosBackUptoCardSaid : Prop := Claim7.holds Tryz.pinned (.plain (OpenSpec.upto fnPosBackSpec)) fnPosBackUptoCard
end Rows
end Go.Proofs.YtakfmcpjnkagmaaGreatDoor
