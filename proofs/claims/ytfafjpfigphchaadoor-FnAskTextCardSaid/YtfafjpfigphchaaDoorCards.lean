/-
  DERIVED. GIVEN WITH THE SEED: THE CARDS: each row of YtfafjpfigphchaaDoorRows.lean that lists a variable, with what it lists TIED to the program's text (the seventh form; the later family's looks); each row that meets fmt, with fmt's text TOLD by the authors' own Lean function (tested against real Go, not proved from fmt's source: count such statements apart). THE CARD IS WHAT COUNTS. Prove the row's statement (the work); the ties are given (YtfafjpfigphchaaDoorTie.lean); close each card by the builder's one call (the guide's Derived/Test/ToyasCard.lean, 'card_holds'). Laid BY PROGRAM, IN A SANDBOX (cutbox-door.mjs). By AI agents, Wed Nov 11 2026. No macro, syntax, notation, axiom, sorry.
-/
import Derived.Test.YtfafjpfigphchaaDoorRows
import GoSem.ClaimSeven
namespace Go.Proofs.YtfafjpfigphchaaDoor
namespace Rows

/-- THE TIED CARD OF 'laws.FnExactOpRead'. -/
def fnExactOpReadCard : Claim7 := { stood := { row := fnExactOpReadRow, standIns := [], harness := (true, "e4e1c1cda34ecfab0d7c244a39ee703997dbe476f7dbdb4f66cfc71e2b668a34"), looks := false }, kinds := [], alts := [], laidByText := true, laidKinds := [.data, .data, .data, .data, .data, .pinned], laidTests := true, laidLooks := .later }
def FnExactOpReadCardSaid : Prop := Claim7.holds Tryd.pinned (.plain (OpenSpec.ofChange fnExactOpReadSpec)) fnExactOpReadCard

/-- THE TIED CARD OF 'laws.FnOpText'. -/
def fnOpTextCard : Claim7 := { stood := { row := fnOpTextRow, standIns := [], harness := (true, "e4e1c1cda34ecfab0d7c244a39ee703997dbe476f7dbdb4f66cfc71e2b668a34"), looks := false }, kinds := [], alts := [], laidByText := true, laidKinds := [.data, .data, .data, .data, .data, .pinned], laidTests := true, laidLooks := .later }
def FnOpTextCardSaid : Prop := Claim7.holds Tryd.pinned (.plain (OpenSpec.ofChange fnOpTextSpec)) fnOpTextCard

/-- THE TIED CARD OF 'laws.FnExactAskRead'. -/
def fnExactAskReadCard : Claim7 := { stood := { row := fnExactAskReadRow, standIns := [], harness := (true, "e4e1c1cda34ecfab0d7c244a39ee703997dbe476f7dbdb4f66cfc71e2b668a34"), looks := false }, kinds := [], alts := [], laidByText := true, laidKinds := [.data, .data, .data, .data, .data, .pinned], laidTests := true, laidLooks := .later }
def FnExactAskReadCardSaid : Prop := Claim7.holds Tryd.pinned (.plain (OpenSpec.ofChange fnExactAskReadSpec)) fnExactAskReadCard

/-- THE TIED CARD OF 'laws.FnAskText'. -/
def fnAskTextCard : Claim7 := { stood := { row := fnAskTextRow, standIns := [], harness := (true, "e4e1c1cda34ecfab0d7c244a39ee703997dbe476f7dbdb4f66cfc71e2b668a34"), looks := false }, kinds := [], alts := [], laidByText := true, laidKinds := [.data, .data, .data, .data, .data, .pinned], laidTests := true, laidLooks := .later }
def FnAskTextCardSaid : Prop := Claim7.holds Tryd.pinned (.plain (OpenSpec.ofChange fnAskTextSpec)) fnAskTextCard

/-- THE SECOND FORM's CARD OF 'laws.FnExactOpRead'. -/
def fnExactOpReadUptoCard : Claim7 := { stood := { row := fnExactOpReadUptoRow, standIns := [], harness := (true, "e4e1c1cda34ecfab0d7c244a39ee703997dbe476f7dbdb4f66cfc71e2b668a34"), looks := false }, kinds := [], alts := [], laidByText := true, laidKinds := [.data, .data, .data, .data, .data, .pinned], laidTests := true, laidLooks := .later }
def FnExactOpReadUptoCardSaid : Prop := Claim7.holds Tryd.pinned (.plain (OpenSpec.upto fnExactOpReadSpec)) fnExactOpReadUptoCard

/-- THE SECOND FORM's CARD OF 'laws.FnOpText'. -/
def fnOpTextUptoCard : Claim7 := { stood := { row := fnOpTextUptoRow, standIns := [], harness := (true, "e4e1c1cda34ecfab0d7c244a39ee703997dbe476f7dbdb4f66cfc71e2b668a34"), looks := false }, kinds := [], alts := [], laidByText := true, laidKinds := [.data, .data, .data, .data, .data, .pinned], laidTests := true, laidLooks := .later }
def FnOpTextUptoCardSaid : Prop := Claim7.holds Tryd.pinned (.plain (OpenSpec.upto fnOpTextSpec)) fnOpTextUptoCard

/-- THE SECOND FORM's CARD OF 'laws.FnExactAskRead'. -/
def fnExactAskReadUptoCard : Claim7 := { stood := { row := fnExactAskReadUptoRow, standIns := [], harness := (true, "e4e1c1cda34ecfab0d7c244a39ee703997dbe476f7dbdb4f66cfc71e2b668a34"), looks := false }, kinds := [], alts := [], laidByText := true, laidKinds := [.data, .data, .data, .data, .data, .pinned], laidTests := true, laidLooks := .later }
def FnExactAskReadUptoCardSaid : Prop := Claim7.holds Tryd.pinned (.plain (OpenSpec.upto fnExactAskReadSpec)) fnExactAskReadUptoCard

/-- THE SECOND FORM's CARD OF 'laws.FnAskText'. -/
def fnAskTextUptoCard : Claim7 := { stood := { row := fnAskTextUptoRow, standIns := [], harness := (true, "e4e1c1cda34ecfab0d7c244a39ee703997dbe476f7dbdb4f66cfc71e2b668a34"), looks := false }, kinds := [], alts := [], laidByText := true, laidKinds := [.data, .data, .data, .data, .data, .pinned], laidTests := true, laidLooks := .later }
def FnAskTextUptoCardSaid : Prop := Claim7.holds Tryd.pinned (.plain (OpenSpec.upto fnAskTextSpec)) fnAskTextUptoCard
end Rows
end Go.Proofs.YtfafjpfigphchaaDoor
