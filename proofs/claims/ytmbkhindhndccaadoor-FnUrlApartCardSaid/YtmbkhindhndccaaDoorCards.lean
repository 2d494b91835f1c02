/-
  DERIVED. GIVEN WITH THE SEED: THE CARDS: each row of YtmbkhindhndccaaDoorRows.lean that lists a variable, with what it lists TIED to the program's text (the seventh form; the later family's looks); each row that meets fmt, with fmt's text TOLD by the authors' own Lean function (tested against real Go, not proved from fmt's source: count such statements apart). THE CARD IS WHAT COUNTS. Prove the row's statement (the work); the ties are given (YtmbkhindhndccaaDoorTie.lean); close each card by the builder's one call (the guide's Derived/Test/ToyasCard.lean, 'card_holds'). Laid BY PROGRAM, IN A SANDBOX (cutbox-door.mjs). By AI agents, Wed Nov 11 2026. No macro, syntax, notation, axiom, sorry.
-/
import Derived.Test.YtmbkhindhndccaaDoorRows
import GoSem.ClaimSeven
namespace Go.Proofs.YtmbkhindhndccaaDoor
namespace Rows

/-- THE TIED CARD OF 'laws.FnExactUrlText'. -/
def fnExactUrlTextCard : Claim7 := { stood := { row := fnExactUrlTextRow, standIns := [], harness := (true, "fa812b168458a27edb893df1428d978e25dd376d2c30dc18570a78391382edee"), looks := false }, kinds := [], alts := [], laidByText := true, laidKinds := [.data, .data, .data, .data, .data, .data], laidTests := true, laidLooks := .later }
def FnExactUrlTextCardSaid : Prop := Claim7.holds Tryd.pinned (.plain (OpenSpec.ofChange fnExactUrlTextSpec)) fnExactUrlTextCard

/-- THE TIED CARD OF 'laws.FnUrlApart'. -/
def fnUrlApartCard : Claim7 := { stood := { row := fnUrlApartRow, standIns := [], harness := (true, "fa812b168458a27edb893df1428d978e25dd376d2c30dc18570a78391382edee"), looks := false }, kinds := [], alts := [], laidByText := true, laidKinds := [.data, .data, .data, .data, .data, .data], laidTests := true, laidLooks := .later }
def FnUrlApartCardSaid : Prop := Claim7.holds Tryd.pinned (.plain (OpenSpec.ofChange fnUrlApartSpec)) fnUrlApartCard

/-- THE SECOND FORM's CARD OF 'laws.FnExactUrlText'. -/
def fnExactUrlTextUptoCard : Claim7 := { stood := { row := fnExactUrlTextUptoRow, standIns := [], harness := (true, "fa812b168458a27edb893df1428d978e25dd376d2c30dc18570a78391382edee"), looks := false }, kinds := [], alts := [], laidByText := true, laidKinds := [.data, .data, .data, .data, .data, .data], laidTests := true, laidLooks := .later }
def FnExactUrlTextUptoCardSaid : Prop := Claim7.holds Tryd.pinned (.plain (OpenSpec.upto fnExactUrlTextSpec)) fnExactUrlTextUptoCard

/-- THE SECOND FORM's CARD OF 'laws.FnUrlApart'. -/
def fnUrlApartUptoCard : Claim7 := { stood := { row := fnUrlApartUptoRow, standIns := [], harness := (true, "fa812b168458a27edb893df1428d978e25dd376d2c30dc18570a78391382edee"), looks := false }, kinds := [], alts := [], laidByText := true, laidKinds := [.data, .data, .data, .data, .data, .data], laidTests := true, laidLooks := .later }
def FnUrlApartUptoCardSaid : Prop := Claim7.holds Tryd.pinned (.plain (OpenSpec.upto fnUrlApartSpec)) fnUrlApartUptoCard
end Rows
end Go.Proofs.YtmbkhindhndccaaDoor
