/-
  DERIVED. GIVEN WITH THE SEED: THE CARDS: each row of YtiocgkggegahhaaDoorRows.lean that lists a variable, with what it lists TIED to the program's text (the seventh form; the later family's looks); each row that meets fmt, with fmt's text TOLD by the authors' own Lean function (tested against real Go, not proved from fmt's source: count such statements apart). THE CARD IS WHAT COUNTS. Prove the row's statement (the work); the ties are given (YtiocgkggegahhaaDoorTie.lean); close each card by the builder's one call (the guide's Derived/Test/ToyasCard.lean, 'card_holds'). Laid BY PROGRAM, IN A SANDBOX (cutbox-door.mjs). By AI agents, Wed Nov 11 2026. No macro, syntax, notation, axiom, sorry.
-/
import Derived.Test.YtiocgkggegahhaaDoorRows
import GoSem.ClaimSeven
namespace Go.Proofs.YtiocgkggegahhaaDoor
namespace Rows

/-- THE TIED CARD OF 'laws.FnExactRulText'. -/
def fnExactRulTextCard : Claim7 := { stood := { row := fnExactRulTextRow, standIns := [], harness := (true, "3f252868ad5ade46c631ee06d1f221cfecbed96742c394c58db6f41f827652e5"), looks := true }, kinds := [], alts := [], laidByText := true, laidKinds := [.data, .data, .data], laidTests := true, laidLooks := .later }
def FnExactRulTextCardSaid : Prop := Claim7.holds Tryd.pinned (.plain (OpenSpec.ofChange fnExactRulTextSpec)) fnExactRulTextCard

/-- THE TIED CARD OF 'laws.FnExactRulRead'. -/
def fnExactRulReadCard : Claim7 := { stood := { row := fnExactRulReadRow, standIns := [], harness := (true, "3f252868ad5ade46c631ee06d1f221cfecbed96742c394c58db6f41f827652e5"), looks := true }, kinds := [], alts := [], laidByText := true, laidKinds := [.data, .data, .data, .data, .sentinel, .sentinel, .pinned], laidTests := true, laidLooks := .later }
def FnExactRulReadCardSaid : Prop := Claim7.holds Tryd.pinned (.plain (OpenSpec.ofChange fnExactRulReadSpec)) fnExactRulReadCard

/-- THE TIED CARD OF 'laws.FnRulText'. -/
def fnRulTextCard : Claim7 := { stood := { row := fnRulTextRow, standIns := [], harness := (true, "3f252868ad5ade46c631ee06d1f221cfecbed96742c394c58db6f41f827652e5"), looks := true }, kinds := [], alts := [], laidByText := true, laidKinds := [.data, .data, .data, .data, .sentinel, .sentinel, .pinned], laidTests := true, laidLooks := .later }
def FnRulTextCardSaid : Prop := Claim7.holds Tryd.pinned (.plain (OpenSpec.ofChange fnRulTextSpec)) fnRulTextCard

/-- THE SECOND FORM's CARD OF 'laws.FnExactRulText'. -/
def fnExactRulTextUptoCard : Claim7 := { stood := { row := fnExactRulTextUptoRow, standIns := [], harness := (true, "3f252868ad5ade46c631ee06d1f221cfecbed96742c394c58db6f41f827652e5"), looks := true }, kinds := [], alts := [], laidByText := true, laidKinds := [.data, .data, .data], laidTests := true, laidLooks := .later }
def FnExactRulTextUptoCardSaid : Prop := Claim7.holds Tryd.pinned (.plain (OpenSpec.upto fnExactRulTextSpec)) fnExactRulTextUptoCard

/-- THE SECOND FORM's CARD OF 'laws.FnExactRulRead'. -/
def fnExactRulReadUptoCard : Claim7 := { stood := { row := fnExactRulReadUptoRow, standIns := [], harness := (true, "3f252868ad5ade46c631ee06d1f221cfecbed96742c394c58db6f41f827652e5"), looks := true }, kinds := [], alts := [], laidByText := true, laidKinds := [.data, .data, .data, .data, .sentinel, .sentinel, .pinned], laidTests := true, laidLooks := .later }
def FnExactRulReadUptoCardSaid : Prop := Claim7.holds Tryd.pinned (.plain (OpenSpec.upto fnExactRulReadSpec)) fnExactRulReadUptoCard

/-- THE SECOND FORM's CARD OF 'laws.FnRulText'. -/
def fnRulTextUptoCard : Claim7 := { stood := { row := fnRulTextUptoRow, standIns := [], harness := (true, "3f252868ad5ade46c631ee06d1f221cfecbed96742c394c58db6f41f827652e5"), looks := true }, kinds := [], alts := [], laidByText := true, laidKinds := [.data, .data, .data, .data, .sentinel, .sentinel, .pinned], laidTests := true, laidLooks := .later }
def FnRulTextUptoCardSaid : Prop := Claim7.holds Tryd.pinned (.plain (OpenSpec.upto fnRulTextSpec)) fnRulTextUptoCard
end Rows
end Go.Proofs.YtiocgkggegahhaaDoor
