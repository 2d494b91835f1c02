/-
  DERIVED. GIVEN WITH THE SEED: THE CARDS: each row of YtmplnpjdbfedbaaGreatDoorRows.lean that lists a variable, with what it lists TIED to the program's text (the seventh form; the later family's looks); each row that meets fmt, with fmt's text TOLD by the authors' own Lean function (tested against real Go, not proved from fmt's source: count such statements apart). THE CARD IS WHAT COUNTS. Prove the row's statement (the work); the ties are given (YtmplnpjdbfedbaaGreatDoorTie.lean); close each card by the builder's one call (the guide's Derived/Test/ToyasCard.lean, 'card_holds'). Laid BY PROGRAM, IN A SANDBOX (cutbox-door.mjs). By AI agents, Wed Nov 11 2026. No macro, syntax, notation, axiom, sorry.
-/
import Derived.Test.YtmplnpjdbfedbaaGreatDoorRows
import GoSem.ClaimSeven
namespace Go.Proofs.YtmplnpjdbfedbaaGreatDoor
namespace Rows

/-- THE TIED CARD OF 'laws.FnUrlBent'. -/
def fnUrlBentCard : Claim7 := { stood := { row := fnUrlBentRow, standIns := [], harness := (true, "0eb7626b0b50443cef930d69af43fc2ae46cb55b470ca9c334cf6eb5b2d4fc4e"), looks := true }, kinds := [], alts := [], laidByText := true, laidKinds := [.data, .data, .data, .data, .handle, .data, .data, .data, .pinned], laidTests := true, laidLooks := .later }
def FnUrlBentCardSaid : Prop := Claim7.holds Tryz.pinned (.plain (OpenSpec.ofChange fnUrlBentSpec)) fnUrlBentCard

/-- THE TIED CARD OF 'laws.FnUrlTime'. -/
def fnUrlTimeCard : Claim7 := { stood := { row := fnUrlTimeRow, standIns := [], harness := (true, "0eb7626b0b50443cef930d69af43fc2ae46cb55b470ca9c334cf6eb5b2d4fc4e"), looks := true }, kinds := [], alts := [], laidByText := true, laidKinds := [.data, .data, .data, .data, .handle, .data, .data, .data, .pinned], laidTests := true, laidLooks := .later }
def FnUrlTimeCardSaid : Prop := Claim7.holds Tryz.pinned (.plain (OpenSpec.ofChange fnUrlTimeSpec)) fnUrlTimeCard

/-- THE TIED CARD OF 'laws.FnUrlWords'. -/
def fnUrlWordsCard : Claim7 := { stood := { row := fnUrlWordsRow, standIns := [], harness := (true, "0eb7626b0b50443cef930d69af43fc2ae46cb55b470ca9c334cf6eb5b2d4fc4e"), looks := true }, kinds := [], alts := [], laidByText := true, laidKinds := [.data, .data, .data, .data, .handle, .data, .data, .data, .pinned], laidTests := true, laidLooks := .later }
def FnUrlWordsCardSaid : Prop := Claim7.holds Tryz.pinned (.plain (OpenSpec.ofChange fnUrlWordsSpec)) fnUrlWordsCard

/-- THE SECOND FORM's CARD OF 'laws.FnUrlBent'. -/
def fnUrlBentUptoCard : Claim7 := { stood := { row := fnUrlBentUptoRow, standIns := [], harness := (true, "0eb7626b0b50443cef930d69af43fc2ae46cb55b470ca9c334cf6eb5b2d4fc4e"), looks := true }, kinds := [], alts := [], laidByText := true, laidKinds := [.data, .data, .data, .data, .handle, .data, .data, .data, .pinned], laidTests := true, laidLooks := .later }
def FnUrlBentUptoCardSaid : Prop := Claim7.holds Tryz.pinned (.plain (OpenSpec.upto fnUrlBentSpec)) fnUrlBentUptoCard

/-- THE SECOND FORM's CARD OF 'laws.FnUrlTime'. -/
def fnUrlTimeUptoCard : Claim7 := { stood := { row := fnUrlTimeUptoRow, standIns := [], harness := (true, "0eb7626b0b50443cef930d69af43fc2ae46cb55b470ca9c334cf6eb5b2d4fc4e"), looks := true }, kinds := [], alts := [], laidByText := true, laidKinds := [.data, .data, .data, .data, .handle, .data, .data, .data, .pinned], laidTests := true, laidLooks := .later }
def FnUrlTimeUptoCardSaid : Prop := Claim7.holds Tryz.pinned (.plain (OpenSpec.upto fnUrlTimeSpec)) fnUrlTimeUptoCard

/-- THE SECOND FORM's CARD OF 'laws.FnUrlWords'. -/
def fnUrlWordsUptoCard : Claim7 := { stood := { row := fnUrlWordsUptoRow, standIns := [], harness := (true, "0eb7626b0b50443cef930d69af43fc2ae46cb55b470ca9c334cf6eb5b2d4fc4e"), looks := true }, kinds := [], alts := [], laidByText := true, laidKinds := [.data, .data, .data, .data, .handle, .data, .data, .data, .pinned], laidTests := true, laidLooks := .later }
def FnUrlWordsUptoCardSaid : Prop := Claim7.holds Tryz.pinned (.plain (OpenSpec.upto fnUrlWordsSpec)) fnUrlWordsUptoCard
end Rows
end Go.Proofs.YtmplnpjdbfedbaaGreatDoor
