/-
  DERIVED. GIVEN WITH THE SEED: THE CARDS: each row of YtiihhjfdgojkeaaDoorRows.lean that lists a variable, with what it lists TIED to the program's text (the seventh form; the later family's looks); each row that meets fmt, with fmt's text TOLD by the authors' own Lean function (tested against real Go, not proved from fmt's source: count such statements apart). THE CARD IS WHAT COUNTS. Prove the row's statement (the work); the ties are given (YtiihhjfdgojkeaaDoorTie.lean); close each card by the builder's one call (the guide's Derived/Test/ToyasCard.lean, 'card_holds'). Laid BY PROGRAM, IN A SANDBOX (cutbox-door.mjs). By AI agents, Wed Nov 11 2026. No macro, syntax, notation, axiom, sorry.
-/
import Derived.Test.YtiihhjfdgojkeaaDoorRows
import GoSem.ClaimSeven
namespace Go.Proofs.YtiihhjfdgojkeaaDoor
namespace Rows

/-- THE TIED CARD OF 'laws.FnExactOpText'. -/
def fnExactOpTextCard : Claim7 := { stood := { row := fnExactOpTextRow, standIns := [], harness := (true, "2f5cfa5779d263a7e5040386bce811721cdcbbd34abfbcd501d0bfa4cacc8297"), looks := false }, kinds := [], alts := [], laidByText := true, laidKinds := [.data, .data, .data, .data], laidTests := true, laidLooks := .later }
def FnExactOpTextCardSaid : Prop := Claim7.holds Tryd.pinned (.plain (OpenSpec.ofChange fnExactOpTextSpec)) fnExactOpTextCard

/-- THE TIED CARD OF 'laws.FnExactAskText'. -/
def fnExactAskTextCard : Claim7 := { stood := { row := fnExactAskTextRow, standIns := [], harness := (true, "2f5cfa5779d263a7e5040386bce811721cdcbbd34abfbcd501d0bfa4cacc8297"), looks := false }, kinds := [], alts := [], laidByText := true, laidKinds := [.data, .data, .data, .data], laidTests := true, laidLooks := .later }
def FnExactAskTextCardSaid : Prop := Claim7.holds Tryd.pinned (.plain (OpenSpec.ofChange fnExactAskTextSpec)) fnExactAskTextCard

/-- THE TIED CARD OF 'laws.FnAskOps'. -/
def fnAskOpsCard : Claim7 := { stood := { row := fnAskOpsRow, standIns := [], harness := (true, "2f5cfa5779d263a7e5040386bce811721cdcbbd34abfbcd501d0bfa4cacc8297"), looks := false }, kinds := [], alts := [], laidByText := true, laidKinds := [.data, .data, .data, .data], laidTests := true, laidLooks := .later }
def FnAskOpsCardSaid : Prop := Claim7.holds Tryd.pinned (.plain (OpenSpec.ofChange fnAskOpsSpec)) fnAskOpsCard

/-- THE TIED CARD OF 'laws.FnFoldText'. -/
def fnFoldTextCard : Claim7 := { stood := { row := fnFoldTextRow, standIns := [], harness := (true, "2f5cfa5779d263a7e5040386bce811721cdcbbd34abfbcd501d0bfa4cacc8297"), looks := false }, kinds := [], alts := [], laidByText := true, laidKinds := [.data, .data, .data, .data], laidTests := true, laidLooks := .later }
def FnFoldTextCardSaid : Prop := Claim7.holds Tryd.pinned (.plain (OpenSpec.ofChange fnFoldTextSpec)) fnFoldTextCard

/-- THE TIED CARD OF 'laws.FnExactOpRead'. -/
def fnExactOpReadCard : Claim7 := { stood := { row := fnExactOpReadRow, standIns := [], harness := (true, "2f5cfa5779d263a7e5040386bce811721cdcbbd34abfbcd501d0bfa4cacc8297"), looks := false }, kinds := [], alts := [], laidByText := true, laidKinds := [.data, .data, .data, .data, .data, .pinned], laidTests := true, laidLooks := .later }
def FnExactOpReadCardSaid : Prop := Claim7.holds Tryd.pinned (.plain (OpenSpec.ofChange fnExactOpReadSpec)) fnExactOpReadCard

/-- THE TIED CARD OF 'laws.FnOpText'. -/
def fnOpTextCard : Claim7 := { stood := { row := fnOpTextRow, standIns := [], harness := (true, "2f5cfa5779d263a7e5040386bce811721cdcbbd34abfbcd501d0bfa4cacc8297"), looks := false }, kinds := [], alts := [], laidByText := true, laidKinds := [.data, .data, .data, .data, .data, .pinned], laidTests := true, laidLooks := .later }
def FnOpTextCardSaid : Prop := Claim7.holds Tryd.pinned (.plain (OpenSpec.ofChange fnOpTextSpec)) fnOpTextCard

/-- THE TIED CARD OF 'laws.FnExactAskRead'. -/
def fnExactAskReadCard : Claim7 := { stood := { row := fnExactAskReadRow, standIns := [], harness := (true, "2f5cfa5779d263a7e5040386bce811721cdcbbd34abfbcd501d0bfa4cacc8297"), looks := false }, kinds := [], alts := [], laidByText := true, laidKinds := [.data, .data, .data, .data, .data, .pinned], laidTests := true, laidLooks := .later }
def FnExactAskReadCardSaid : Prop := Claim7.holds Tryd.pinned (.plain (OpenSpec.ofChange fnExactAskReadSpec)) fnExactAskReadCard

/-- THE TIED CARD OF 'laws.FnAskText'. -/
def fnAskTextCard : Claim7 := { stood := { row := fnAskTextRow, standIns := [], harness := (true, "2f5cfa5779d263a7e5040386bce811721cdcbbd34abfbcd501d0bfa4cacc8297"), looks := false }, kinds := [], alts := [], laidByText := true, laidKinds := [.data, .data, .data, .data, .data, .pinned], laidTests := true, laidLooks := .later }
def FnAskTextCardSaid : Prop := Claim7.holds Tryd.pinned (.plain (OpenSpec.ofChange fnAskTextSpec)) fnAskTextCard

/-- THE TIED CARD OF 'laws.FnExactDskText'. -/
def fnExactDskTextCard : Claim7 := { stood := { row := fnExactDskTextRow, standIns := [], harness := (true, "2f5cfa5779d263a7e5040386bce811721cdcbbd34abfbcd501d0bfa4cacc8297"), looks := false }, kinds := [], alts := [], laidByText := true, laidKinds := [.data, .data, .data, .data], laidTests := true, laidLooks := .later }
def FnExactDskTextCardSaid : Prop := Claim7.holds Tryd.pinned (.plain (OpenSpec.ofChange fnExactDskTextSpec)) fnExactDskTextCard

/-- THE TIED CARD OF 'laws.FnExactDskEvent'. -/
def fnExactDskEventCard : Claim7 := { stood := { row := fnExactDskEventRow, standIns := [], harness := (true, "2f5cfa5779d263a7e5040386bce811721cdcbbd34abfbcd501d0bfa4cacc8297"), looks := false }, kinds := [], alts := [], laidByText := true, laidKinds := [.data, .data, .data, .data, .data, .pinned], laidTests := true, laidLooks := .later }
def FnExactDskEventCardSaid : Prop := Claim7.holds Tryd.pinned (.plain (OpenSpec.ofChange fnExactDskEventSpec)) fnExactDskEventCard

/-- THE SECOND FORM's CARD OF 'laws.FnExactOpText'. -/
def fnExactOpTextUptoCard : Claim7 := { stood := { row := fnExactOpTextUptoRow, standIns := [], harness := (true, "2f5cfa5779d263a7e5040386bce811721cdcbbd34abfbcd501d0bfa4cacc8297"), looks := false }, kinds := [], alts := [], laidByText := true, laidKinds := [.data, .data, .data, .data], laidTests := true, laidLooks := .later }
def FnExactOpTextUptoCardSaid : Prop := Claim7.holds Tryd.pinned (.plain (OpenSpec.upto fnExactOpTextSpec)) fnExactOpTextUptoCard

/-- THE SECOND FORM's CARD OF 'laws.FnExactAskText'. -/
def fnExactAskTextUptoCard : Claim7 := { stood := { row := fnExactAskTextUptoRow, standIns := [], harness := (true, "2f5cfa5779d263a7e5040386bce811721cdcbbd34abfbcd501d0bfa4cacc8297"), looks := false }, kinds := [], alts := [], laidByText := true, laidKinds := [.data, .data, .data, .data], laidTests := true, laidLooks := .later }
def FnExactAskTextUptoCardSaid : Prop := Claim7.holds Tryd.pinned (.plain (OpenSpec.upto fnExactAskTextSpec)) fnExactAskTextUptoCard

/-- THE SECOND FORM's CARD OF 'laws.FnAskOps'. -/
def fnAskOpsUptoCard : Claim7 := { stood := { row := fnAskOpsUptoRow, standIns := [], harness := (true, "2f5cfa5779d263a7e5040386bce811721cdcbbd34abfbcd501d0bfa4cacc8297"), looks := false }, kinds := [], alts := [], laidByText := true, laidKinds := [.data, .data, .data, .data], laidTests := true, laidLooks := .later }
def FnAskOpsUptoCardSaid : Prop := Claim7.holds Tryd.pinned (.plain (OpenSpec.upto fnAskOpsSpec)) fnAskOpsUptoCard

/-- THE SECOND FORM's CARD OF 'laws.FnFoldText'. -/
def fnFoldTextUptoCard : Claim7 := { stood := { row := fnFoldTextUptoRow, standIns := [], harness := (true, "2f5cfa5779d263a7e5040386bce811721cdcbbd34abfbcd501d0bfa4cacc8297"), looks := false }, kinds := [], alts := [], laidByText := true, laidKinds := [.data, .data, .data, .data], laidTests := true, laidLooks := .later }
def FnFoldTextUptoCardSaid : Prop := Claim7.holds Tryd.pinned (.plain (OpenSpec.upto fnFoldTextSpec)) fnFoldTextUptoCard

/-- THE SECOND FORM's CARD OF 'laws.FnExactOpRead'. -/
def fnExactOpReadUptoCard : Claim7 := { stood := { row := fnExactOpReadUptoRow, standIns := [], harness := (true, "2f5cfa5779d263a7e5040386bce811721cdcbbd34abfbcd501d0bfa4cacc8297"), looks := false }, kinds := [], alts := [], laidByText := true, laidKinds := [.data, .data, .data, .data, .data, .pinned], laidTests := true, laidLooks := .later }
def FnExactOpReadUptoCardSaid : Prop := Claim7.holds Tryd.pinned (.plain (OpenSpec.upto fnExactOpReadSpec)) fnExactOpReadUptoCard

/-- THE SECOND FORM's CARD OF 'laws.FnOpText'. -/
def fnOpTextUptoCard : Claim7 := { stood := { row := fnOpTextUptoRow, standIns := [], harness := (true, "2f5cfa5779d263a7e5040386bce811721cdcbbd34abfbcd501d0bfa4cacc8297"), looks := false }, kinds := [], alts := [], laidByText := true, laidKinds := [.data, .data, .data, .data, .data, .pinned], laidTests := true, laidLooks := .later }
def FnOpTextUptoCardSaid : Prop := Claim7.holds Tryd.pinned (.plain (OpenSpec.upto fnOpTextSpec)) fnOpTextUptoCard

/-- THE SECOND FORM's CARD OF 'laws.FnExactAskRead'. -/
def fnExactAskReadUptoCard : Claim7 := { stood := { row := fnExactAskReadUptoRow, standIns := [], harness := (true, "2f5cfa5779d263a7e5040386bce811721cdcbbd34abfbcd501d0bfa4cacc8297"), looks := false }, kinds := [], alts := [], laidByText := true, laidKinds := [.data, .data, .data, .data, .data, .pinned], laidTests := true, laidLooks := .later }
def FnExactAskReadUptoCardSaid : Prop := Claim7.holds Tryd.pinned (.plain (OpenSpec.upto fnExactAskReadSpec)) fnExactAskReadUptoCard

/-- THE SECOND FORM's CARD OF 'laws.FnAskText'. -/
def fnAskTextUptoCard : Claim7 := { stood := { row := fnAskTextUptoRow, standIns := [], harness := (true, "2f5cfa5779d263a7e5040386bce811721cdcbbd34abfbcd501d0bfa4cacc8297"), looks := false }, kinds := [], alts := [], laidByText := true, laidKinds := [.data, .data, .data, .data, .data, .pinned], laidTests := true, laidLooks := .later }
def FnAskTextUptoCardSaid : Prop := Claim7.holds Tryd.pinned (.plain (OpenSpec.upto fnAskTextSpec)) fnAskTextUptoCard

/-- THE SECOND FORM's CARD OF 'laws.FnExactDskText'. -/
def fnExactDskTextUptoCard : Claim7 := { stood := { row := fnExactDskTextUptoRow, standIns := [], harness := (true, "2f5cfa5779d263a7e5040386bce811721cdcbbd34abfbcd501d0bfa4cacc8297"), looks := false }, kinds := [], alts := [], laidByText := true, laidKinds := [.data, .data, .data, .data], laidTests := true, laidLooks := .later }
def FnExactDskTextUptoCardSaid : Prop := Claim7.holds Tryd.pinned (.plain (OpenSpec.upto fnExactDskTextSpec)) fnExactDskTextUptoCard

/-- THE SECOND FORM's CARD OF 'laws.FnExactDskEvent'. -/
def fnExactDskEventUptoCard : Claim7 := { stood := { row := fnExactDskEventUptoRow, standIns := [], harness := (true, "2f5cfa5779d263a7e5040386bce811721cdcbbd34abfbcd501d0bfa4cacc8297"), looks := false }, kinds := [], alts := [], laidByText := true, laidKinds := [.data, .data, .data, .data, .data, .pinned], laidTests := true, laidLooks := .later }
def FnExactDskEventUptoCardSaid : Prop := Claim7.holds Tryd.pinned (.plain (OpenSpec.upto fnExactDskEventSpec)) fnExactDskEventUptoCard
end Rows
end Go.Proofs.YtiihhjfdgojkeaaDoor
