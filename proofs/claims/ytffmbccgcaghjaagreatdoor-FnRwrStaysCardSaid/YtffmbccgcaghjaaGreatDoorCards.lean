/-
  DERIVED. GIVEN WITH THE SEED: THE CARDS: each row of YtffmbccgcaghjaaGreatDoorRows.lean that lists a variable, with what it lists TIED to the program's text (the seventh form; the later family's looks); each row that meets fmt, with fmt's text TOLD by the authors' own Lean function (tested against real Go, not proved from fmt's source: count such statements apart). THE CARD IS WHAT COUNTS. Prove the row's statement (the work); the ties are given (YtffmbccgcaghjaaGreatDoorTie.lean); close each card by the builder's one call (the guide's Derived/Test/ToyasCard.lean, 'card_holds'). Laid BY PROGRAM, IN A SANDBOX (cutbox-door.mjs). By AI agents, Wed Nov 11 2026. No macro, syntax, notation, axiom, sorry.
-/
import Derived.Test.YtffmbccgcaghjaaGreatDoorRows
import GoSem.ClaimSeven
namespace Go.Proofs.YtffmbccgcaghjaaGreatDoor
namespace Rows

/-- THE TIED CARD OF 'laws.FnRwrLine'. -/
def fnRwrLineCard : Claim7 := { stood := { row := fnRwrLineRow, standIns := [], harness := (true, "14eee5b04736e1aa670be9ac64e9534e3690464f1458858a5ef8150a520ed242"), looks := true }, kinds := [], alts := [], laidByText := true, laidKinds := [.data, .data, .data, .sentinel, .sentinel, .sentinel], laidTests := true, laidLooks := .later }
def FnRwrLineCardSaid : Prop := Claim7.holds Tryz.pinned (.plain (OpenSpec.ofChange fnRwrLineSpec)) fnRwrLineCard

/-- THE TIED CARD OF 'laws.FnExactRwrLine'. -/
def fnExactRwrLineCard : Claim7 := { stood := { row := fnExactRwrLineRow, standIns := [], harness := (true, "14eee5b04736e1aa670be9ac64e9534e3690464f1458858a5ef8150a520ed242"), looks := true }, kinds := [], alts := [], laidByText := true, laidKinds := [.data, .data, .data, .sentinel, .sentinel, .sentinel], laidTests := true, laidLooks := .later }
def FnExactRwrLineCardSaid : Prop := Claim7.holds Tryz.pinned (.plain (OpenSpec.ofChange fnExactRwrLineSpec)) fnExactRwrLineCard

/-- THE TIED CARD OF 'laws.FnBakRwr'. -/
def fnBakRwrCard : Claim7 := { stood := { row := fnBakRwrRow, standIns := [], harness := (true, "14eee5b04736e1aa670be9ac64e9534e3690464f1458858a5ef8150a520ed242"), looks := true }, kinds := [], alts := [], laidByText := true, laidKinds := [.data, .data, .data, .sentinel, .sentinel, .sentinel], laidTests := true, laidLooks := .later }
def FnBakRwrCardSaid : Prop := Claim7.holds Tryz.pinned (.plain (OpenSpec.ofChange fnBakRwrSpec)) fnBakRwrCard

/-- THE TIED CARD OF 'laws.FnRwrStays'. -/
def fnRwrStaysCard : Claim7 := { stood := { row := fnRwrStaysRow, standIns := [], harness := (true, "14eee5b04736e1aa670be9ac64e9534e3690464f1458858a5ef8150a520ed242"), looks := true }, kinds := [], alts := [], laidByText := true, laidKinds := [.data, .data, .data, .sentinel, .sentinel, .sentinel], laidTests := true, laidLooks := .later }
def FnRwrStaysCardSaid : Prop := Claim7.holds Tryz.pinned (.plain (OpenSpec.ofChange fnRwrStaysSpec)) fnRwrStaysCard

/-- THE TIED CARD OF 'laws.FnExactRwrStream'. -/
def fnExactRwrStreamCard : Claim7 := { stood := { row := fnExactRwrStreamRow, standIns := [], harness := (true, "14eee5b04736e1aa670be9ac64e9534e3690464f1458858a5ef8150a520ed242"), looks := true }, kinds := [], alts := [], laidByText := true, laidKinds := [.data, .data, .data, .sentinel, .sentinel, .sentinel], laidTests := true, laidLooks := .later }
def FnExactRwrStreamCardSaid : Prop := Claim7.holds Tryz.pinned (.plain (OpenSpec.ofChange fnExactRwrStreamSpec)) fnExactRwrStreamCard

/-- THE TIED CARD OF 'laws.FnRwrRoom'. -/
def fnRwrRoomCard : Claim7 := { stood := { row := fnRwrRoomRow, standIns := [], harness := (true, "14eee5b04736e1aa670be9ac64e9534e3690464f1458858a5ef8150a520ed242"), looks := true }, kinds := [], alts := [], laidByText := true, laidKinds := [.data, .data, .data, .sentinel, .sentinel, .sentinel], laidTests := true, laidLooks := .later }
def FnRwrRoomCardSaid : Prop := Claim7.holds Tryz.pinned (.plain (OpenSpec.ofChange fnRwrRoomSpec)) fnRwrRoomCard

/-- THE TIED CARD OF 'laws.FnRwrAgain'. -/
def fnRwrAgainCard : Claim7 := { stood := { row := fnRwrAgainRow, standIns := [], harness := (true, "14eee5b04736e1aa670be9ac64e9534e3690464f1458858a5ef8150a520ed242"), looks := true }, kinds := [], alts := [], laidByText := true, laidKinds := [.data, .data, .data, .sentinel, .sentinel, .sentinel], laidTests := true, laidLooks := .later }
def FnRwrAgainCardSaid : Prop := Claim7.holds Tryz.pinned (.plain (OpenSpec.ofChange fnRwrAgainSpec)) fnRwrAgainCard

/-- THE TIED CARD OF 'laws.FnRwrJoin'. -/
def fnRwrJoinCard : Claim7 := { stood := { row := fnRwrJoinRow, standIns := [], harness := (true, "14eee5b04736e1aa670be9ac64e9534e3690464f1458858a5ef8150a520ed242"), looks := true }, kinds := [], alts := [], laidByText := true, laidKinds := [.data, .data, .data, .sentinel, .sentinel, .sentinel], laidTests := true, laidLooks := .later }
def FnRwrJoinCardSaid : Prop := Claim7.holds Tryz.pinned (.plain (OpenSpec.ofChange fnRwrJoinSpec)) fnRwrJoinCard

/-- THE TIED CARD OF 'laws.FnRwrStream'. -/
def fnRwrStreamCard : Claim7 := { stood := { row := fnRwrStreamRow, standIns := [], harness := (true, "14eee5b04736e1aa670be9ac64e9534e3690464f1458858a5ef8150a520ed242"), looks := true }, kinds := [], alts := [], laidByText := true, laidKinds := [.data, .data, .data, .sentinel, .sentinel, .sentinel], laidTests := true, laidLooks := .later }
def FnRwrStreamCardSaid : Prop := Claim7.holds Tryz.pinned (.plain (OpenSpec.ofChange fnRwrStreamSpec)) fnRwrStreamCard

/-- THE SECOND FORM's CARD OF 'laws.FnRwrLine'. -/
def fnRwrLineUptoCard : Claim7 := { stood := { row := fnRwrLineUptoRow, standIns := [], harness := (true, "14eee5b04736e1aa670be9ac64e9534e3690464f1458858a5ef8150a520ed242"), looks := true }, kinds := [], alts := [], laidByText := true, laidKinds := [.data, .data, .data, .sentinel, .sentinel, .sentinel], laidTests := true, laidLooks := .later }
def FnRwrLineUptoCardSaid : Prop := Claim7.holds Tryz.pinned (.plain (OpenSpec.upto fnRwrLineSpec)) fnRwrLineUptoCard

/-- THE SECOND FORM's CARD OF 'laws.FnExactRwrLine'. -/
def fnExactRwrLineUptoCard : Claim7 := { stood := { row := fnExactRwrLineUptoRow, standIns := [], harness := (true, "14eee5b04736e1aa670be9ac64e9534e3690464f1458858a5ef8150a520ed242"), looks := true }, kinds := [], alts := [], laidByText := true, laidKinds := [.data, .data, .data, .sentinel, .sentinel, .sentinel], laidTests := true, laidLooks := .later }
def FnExactRwrLineUptoCardSaid : Prop := Claim7.holds Tryz.pinned (.plain (OpenSpec.upto fnExactRwrLineSpec)) fnExactRwrLineUptoCard

/-- THE SECOND FORM's CARD OF 'laws.FnBakRwr'. -/
def fnBakRwrUptoCard : Claim7 := { stood := { row := fnBakRwrUptoRow, standIns := [], harness := (true, "14eee5b04736e1aa670be9ac64e9534e3690464f1458858a5ef8150a520ed242"), looks := true }, kinds := [], alts := [], laidByText := true, laidKinds := [.data, .data, .data, .sentinel, .sentinel, .sentinel], laidTests := true, laidLooks := .later }
def FnBakRwrUptoCardSaid : Prop := Claim7.holds Tryz.pinned (.plain (OpenSpec.upto fnBakRwrSpec)) fnBakRwrUptoCard

/-- THE SECOND FORM's CARD OF 'laws.FnRwrStays'. -/
def fnRwrStaysUptoCard : Claim7 := { stood := { row := fnRwrStaysUptoRow, standIns := [], harness := (true, "14eee5b04736e1aa670be9ac64e9534e3690464f1458858a5ef8150a520ed242"), looks := true }, kinds := [], alts := [], laidByText := true, laidKinds := [.data, .data, .data, .sentinel, .sentinel, .sentinel], laidTests := true, laidLooks := .later }
def FnRwrStaysUptoCardSaid : Prop := Claim7.holds Tryz.pinned (.plain (OpenSpec.upto fnRwrStaysSpec)) fnRwrStaysUptoCard

/-- THE SECOND FORM's CARD OF 'laws.FnExactRwrStream'. -/
def fnExactRwrStreamUptoCard : Claim7 := { stood := { row := fnExactRwrStreamUptoRow, standIns := [], harness := (true, "14eee5b04736e1aa670be9ac64e9534e3690464f1458858a5ef8150a520ed242"), looks := true }, kinds := [], alts := [], laidByText := true, laidKinds := [.data, .data, .data, .sentinel, .sentinel, .sentinel], laidTests := true, laidLooks := .later }
def FnExactRwrStreamUptoCardSaid : Prop := Claim7.holds Tryz.pinned (.plain (OpenSpec.upto fnExactRwrStreamSpec)) fnExactRwrStreamUptoCard

/-- THE SECOND FORM's CARD OF 'laws.FnRwrRoom'. -/
def fnRwrRoomUptoCard : Claim7 := { stood := { row := fnRwrRoomUptoRow, standIns := [], harness := (true, "14eee5b04736e1aa670be9ac64e9534e3690464f1458858a5ef8150a520ed242"), looks := true }, kinds := [], alts := [], laidByText := true, laidKinds := [.data, .data, .data, .sentinel, .sentinel, .sentinel], laidTests := true, laidLooks := .later }
def FnRwrRoomUptoCardSaid : Prop := Claim7.holds Tryz.pinned (.plain (OpenSpec.upto fnRwrRoomSpec)) fnRwrRoomUptoCard

/-- THE SECOND FORM's CARD OF 'laws.FnRwrAgain'. -/
def fnRwrAgainUptoCard : Claim7 := { stood := { row := fnRwrAgainUptoRow, standIns := [], harness := (true, "14eee5b04736e1aa670be9ac64e9534e3690464f1458858a5ef8150a520ed242"), looks := true }, kinds := [], alts := [], laidByText := true, laidKinds := [.data, .data, .data, .sentinel, .sentinel, .sentinel], laidTests := true, laidLooks := .later }
def FnRwrAgainUptoCardSaid : Prop := Claim7.holds Tryz.pinned (.plain (OpenSpec.upto fnRwrAgainSpec)) fnRwrAgainUptoCard

/-- THE SECOND FORM's CARD OF 'laws.FnRwrJoin'. -/
def fnRwrJoinUptoCard : Claim7 := { stood := { row := fnRwrJoinUptoRow, standIns := [], harness := (true, "14eee5b04736e1aa670be9ac64e9534e3690464f1458858a5ef8150a520ed242"), looks := true }, kinds := [], alts := [], laidByText := true, laidKinds := [.data, .data, .data, .sentinel, .sentinel, .sentinel], laidTests := true, laidLooks := .later }
def FnRwrJoinUptoCardSaid : Prop := Claim7.holds Tryz.pinned (.plain (OpenSpec.upto fnRwrJoinSpec)) fnRwrJoinUptoCard

/-- THE SECOND FORM's CARD OF 'laws.FnRwrStream'. -/
def fnRwrStreamUptoCard : Claim7 := { stood := { row := fnRwrStreamUptoRow, standIns := [], harness := (true, "14eee5b04736e1aa670be9ac64e9534e3690464f1458858a5ef8150a520ed242"), looks := true }, kinds := [], alts := [], laidByText := true, laidKinds := [.data, .data, .data, .sentinel, .sentinel, .sentinel], laidTests := true, laidLooks := .later }
def FnRwrStreamUptoCardSaid : Prop := Claim7.holds Tryz.pinned (.plain (OpenSpec.upto fnRwrStreamSpec)) fnRwrStreamUptoCard
end Rows
end Go.Proofs.YtffmbccgcaghjaaGreatDoor
