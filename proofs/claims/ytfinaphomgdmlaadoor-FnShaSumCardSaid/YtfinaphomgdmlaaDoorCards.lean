/-
  DERIVED. GIVEN WITH THE SEED: THE CARDS: each row of YtfinaphomgdmlaaDoorRows.lean that lists a variable, with what it lists TIED to the program's text (the seventh form; the later family's looks); each row that meets fmt, with fmt's text TOLD by the authors' own Lean function (tested against real Go, not proved from fmt's source: count such statements apart). THE CARD IS WHAT COUNTS. Prove the row's statement (the work); the ties are given (YtfinaphomgdmlaaDoorTie.lean); close each card by the builder's one call (the guide's Derived/Test/ToyasCard.lean, 'card_holds'). Laid BY PROGRAM, IN A SANDBOX (cutbox-door.mjs). By AI agents, Wed Nov 11 2026. No macro, syntax, notation, axiom, sorry.
-/
import Derived.Test.YtfinaphomgdmlaaDoorRows
import GoSem.ClaimSeven
namespace Go.Proofs.YtfinaphomgdmlaaDoor
namespace Rows

/-- THE TIED CARD OF 'laws.FnExactShaSum'. -/
def fnExactShaSumCard : Claim7 := { stood := { row := fnExactShaSumRow, standIns := [], harness := (true, "35fc439ce4ecd73621e6070f2169cbed57aacb60020b242d8f8024891b534048"), looks := false }, kinds := [], alts := [], laidByText := true, laidKinds := [.data, .data], laidTests := true, laidLooks := .later }
def FnExactShaSumCardSaid : Prop := Claim7.holds Tryd.pinned (.plain (OpenSpec.ofChange fnExactShaSumSpec)) fnExactShaSumCard

/-- THE TIED CARD OF 'laws.FnShaSum'. -/
def fnShaSumCard : Claim7 := { stood := { row := fnShaSumRow, standIns := [], harness := (true, "35fc439ce4ecd73621e6070f2169cbed57aacb60020b242d8f8024891b534048"), looks := false }, kinds := [], alts := [], laidByText := true, laidKinds := [.data, .data], laidTests := true, laidLooks := .later }
def FnShaSumCardSaid : Prop := Claim7.holds Tryd.pinned (.plain (OpenSpec.ofChange fnShaSumSpec)) fnShaSumCard

/-- THE TIED CARD OF 'laws.FnExactShaMac'. -/
def fnExactShaMacCard : Claim7 := { stood := { row := fnExactShaMacRow, standIns := [], harness := (true, "35fc439ce4ecd73621e6070f2169cbed57aacb60020b242d8f8024891b534048"), looks := false }, kinds := [], alts := [], laidByText := true, laidKinds := [.data, .data], laidTests := true, laidLooks := .later }
def FnExactShaMacCardSaid : Prop := Claim7.holds Tryd.pinned (.plain (OpenSpec.ofChange fnExactShaMacSpec)) fnExactShaMacCard

/-- THE TIED CARD OF 'laws.FnMacKey'. -/
def fnMacKeyCard : Claim7 := { stood := { row := fnMacKeyRow, standIns := [], harness := (true, "35fc439ce4ecd73621e6070f2169cbed57aacb60020b242d8f8024891b534048"), looks := false }, kinds := [], alts := [], laidByText := true, laidKinds := [.data, .data], laidTests := true, laidLooks := .later }
def FnMacKeyCardSaid : Prop := Claim7.holds Tryd.pinned (.plain (OpenSpec.ofChange fnMacKeySpec)) fnMacKeyCard

/-- THE TIED CARD OF 'laws.FnShaMac'. -/
def fnShaMacCard : Claim7 := { stood := { row := fnShaMacRow, standIns := [], harness := (true, "35fc439ce4ecd73621e6070f2169cbed57aacb60020b242d8f8024891b534048"), looks := false }, kinds := [], alts := [], laidByText := true, laidKinds := [.data, .data], laidTests := true, laidLooks := .later }
def FnShaMacCardSaid : Prop := Claim7.holds Tryd.pinned (.plain (OpenSpec.ofChange fnShaMacSpec)) fnShaMacCard

/-- THE SECOND FORM's CARD OF 'laws.FnExactShaSum'. -/
def fnExactShaSumUptoCard : Claim7 := { stood := { row := fnExactShaSumUptoRow, standIns := [], harness := (true, "35fc439ce4ecd73621e6070f2169cbed57aacb60020b242d8f8024891b534048"), looks := false }, kinds := [], alts := [], laidByText := true, laidKinds := [.data, .data], laidTests := true, laidLooks := .later }
def FnExactShaSumUptoCardSaid : Prop := Claim7.holds Tryd.pinned (.plain (OpenSpec.upto fnExactShaSumSpec)) fnExactShaSumUptoCard

/-- THE SECOND FORM's CARD OF 'laws.FnShaSum'. -/
def fnShaSumUptoCard : Claim7 := { stood := { row := fnShaSumUptoRow, standIns := [], harness := (true, "35fc439ce4ecd73621e6070f2169cbed57aacb60020b242d8f8024891b534048"), looks := false }, kinds := [], alts := [], laidByText := true, laidKinds := [.data, .data], laidTests := true, laidLooks := .later }
def FnShaSumUptoCardSaid : Prop := Claim7.holds Tryd.pinned (.plain (OpenSpec.upto fnShaSumSpec)) fnShaSumUptoCard

/-- THE SECOND FORM's CARD OF 'laws.FnExactShaMac'. -/
def fnExactShaMacUptoCard : Claim7 := { stood := { row := fnExactShaMacUptoRow, standIns := [], harness := (true, "35fc439ce4ecd73621e6070f2169cbed57aacb60020b242d8f8024891b534048"), looks := false }, kinds := [], alts := [], laidByText := true, laidKinds := [.data, .data], laidTests := true, laidLooks := .later }
def FnExactShaMacUptoCardSaid : Prop := Claim7.holds Tryd.pinned (.plain (OpenSpec.upto fnExactShaMacSpec)) fnExactShaMacUptoCard

/-- THE SECOND FORM's CARD OF 'laws.FnMacKey'. -/
def fnMacKeyUptoCard : Claim7 := { stood := { row := fnMacKeyUptoRow, standIns := [], harness := (true, "35fc439ce4ecd73621e6070f2169cbed57aacb60020b242d8f8024891b534048"), looks := false }, kinds := [], alts := [], laidByText := true, laidKinds := [.data, .data], laidTests := true, laidLooks := .later }
def FnMacKeyUptoCardSaid : Prop := Claim7.holds Tryd.pinned (.plain (OpenSpec.upto fnMacKeySpec)) fnMacKeyUptoCard

/-- THE SECOND FORM's CARD OF 'laws.FnShaMac'. -/
def fnShaMacUptoCard : Claim7 := { stood := { row := fnShaMacUptoRow, standIns := [], harness := (true, "35fc439ce4ecd73621e6070f2169cbed57aacb60020b242d8f8024891b534048"), looks := false }, kinds := [], alts := [], laidByText := true, laidKinds := [.data, .data], laidTests := true, laidLooks := .later }
def FnShaMacUptoCardSaid : Prop := Claim7.holds Tryd.pinned (.plain (OpenSpec.upto fnShaMacSpec)) fnShaMacUptoCard
end Rows
end Go.Proofs.YtfinaphomgdmlaaDoor
