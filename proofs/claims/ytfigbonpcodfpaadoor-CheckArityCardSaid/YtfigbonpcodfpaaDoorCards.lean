/-
  DERIVED. GIVEN WITH THE SEED: THE CARDS: each row of YtfigbonpcodfpaaDoorRows.lean that lists a variable, with what it lists TIED to the program's text (the seventh form; the later family's looks); each row that meets fmt, with fmt's text TOLD by the authors' own Lean function (tested against real Go, not proved from fmt's source: count such statements apart). THE CARD IS WHAT COUNTS. Prove the row's statement (the work); the ties are given (YtfigbonpcodfpaaDoorTie.lean); close each card by the builder's one call (the guide's Derived/Test/ToyasCard.lean, 'card_holds'). Laid BY PROGRAM, IN A SANDBOX (cutbox-door.mjs). By AI agents, Wed Nov 11 2026. No macro, syntax, notation, axiom, sorry.
-/
import Derived.Test.YtfigbonpcodfpaaDoorRows
import GoSem.ClaimSeven
namespace Go.Proofs.YtfigbonpcodfpaaDoor
namespace Rows

/-- THE TIED CARD OF 'parchmentlaw24.CheckOne'. -/
def checkOneCard : Claim7 := { stood := { row := checkOneRow, standIns := [], harness := (true, "053210132799fb3920602c0184719ac29a8f3e23378487577cefccbb859cc1fa"), looks := true }, kinds := [], alts := [], laidByText := true, laidKinds := [.data, .widerDeep, .widerDeep, .widerDeep, .data, .pinned], laidTests := true, laidLooks := .later }
def CheckOneCardSaid : Prop := Claim7.holds Tryd.pinned (.plain (OpenSpec.ofChange checkOneSpec)) checkOneCard

/-- THE TIED CARD OF 'parchmentlaw24.CheckWithin'. -/
def checkWithinCard : Claim7 := { stood := { row := checkWithinRow, standIns := [], harness := (true, "053210132799fb3920602c0184719ac29a8f3e23378487577cefccbb859cc1fa"), looks := true }, kinds := [], alts := [], laidByText := true, laidKinds := [.data, .widerDeep, .widerDeep, .widerDeep, .data, .pinned], laidTests := true, laidLooks := .later }
def CheckWithinCardSaid : Prop := Claim7.holds Tryd.pinned (.plain (OpenSpec.ofChange checkWithinSpec)) checkWithinCard

/-- THE TIED CARD OF 'parchmentlaw24.CheckArity'. -/
def checkArityCard : Claim7 := { stood := { row := checkArityRow, standIns := [], harness := (true, "053210132799fb3920602c0184719ac29a8f3e23378487577cefccbb859cc1fa"), looks := true }, kinds := [], alts := [], laidByText := true, laidKinds := [.data, .widerDeep, .widerDeep, .widerDeep, .data, .pinned], laidTests := true, laidLooks := .later }
def CheckArityCardSaid : Prop := Claim7.holds Tryd.pinned (.plain (OpenSpec.ofChange checkAritySpec)) checkArityCard

/-- THE TIED CARD OF 'parchmentlaw07.ParseCut'. -/
def parseCutCard : Claim7 := { stood := { row := parseCutRow, standIns := [], harness := (true, "053210132799fb3920602c0184719ac29a8f3e23378487577cefccbb859cc1fa"), looks := true }, kinds := [], alts := [], laidByText := true, laidKinds := [.data, .data, .data, .widerDeep, .widerDeep, .pinned, .pinned], laidTests := true, laidLooks := .later }
def ParseCutCardSaid : Prop := Claim7.holds Tryd.pinned (.plain (OpenSpec.ofChange parseCutSpec)) parseCutCard

/-- THE TIED CARD OF 'parchmentlaw07.ParseBlanks'. -/
def parseBlanksCard : Claim7 := { stood := { row := parseBlanksRow, standIns := [], harness := (true, "053210132799fb3920602c0184719ac29a8f3e23378487577cefccbb859cc1fa"), looks := true }, kinds := [], alts := [], laidByText := true, laidKinds := [.data, .data, .data, .widerDeep, .widerDeep, .pinned, .pinned], laidTests := true, laidLooks := .later }
def ParseBlanksCardSaid : Prop := Claim7.holds Tryd.pinned (.plain (OpenSpec.ofChange parseBlanksSpec)) parseBlanksCard

/-- THE SECOND FORM's CARD OF 'parchmentlaw24.CheckOne'. -/
def checkOneUptoCard : Claim7 := { stood := { row := checkOneUptoRow, standIns := [], harness := (true, "053210132799fb3920602c0184719ac29a8f3e23378487577cefccbb859cc1fa"), looks := true }, kinds := [], alts := [], laidByText := true, laidKinds := [.data, .widerDeep, .widerDeep, .widerDeep, .data, .pinned], laidTests := true, laidLooks := .later }
def CheckOneUptoCardSaid : Prop := Claim7.holds Tryd.pinned (.plain (OpenSpec.upto checkOneSpec)) checkOneUptoCard

/-- THE SECOND FORM's CARD OF 'parchmentlaw24.CheckWithin'. -/
def checkWithinUptoCard : Claim7 := { stood := { row := checkWithinUptoRow, standIns := [], harness := (true, "053210132799fb3920602c0184719ac29a8f3e23378487577cefccbb859cc1fa"), looks := true }, kinds := [], alts := [], laidByText := true, laidKinds := [.data, .widerDeep, .widerDeep, .widerDeep, .data, .pinned], laidTests := true, laidLooks := .later }
def CheckWithinUptoCardSaid : Prop := Claim7.holds Tryd.pinned (.plain (OpenSpec.upto checkWithinSpec)) checkWithinUptoCard

/-- THE SECOND FORM's CARD OF 'parchmentlaw24.CheckArity'. -/
def checkArityUptoCard : Claim7 := { stood := { row := checkArityUptoRow, standIns := [], harness := (true, "053210132799fb3920602c0184719ac29a8f3e23378487577cefccbb859cc1fa"), looks := true }, kinds := [], alts := [], laidByText := true, laidKinds := [.data, .widerDeep, .widerDeep, .widerDeep, .data, .pinned], laidTests := true, laidLooks := .later }
def CheckArityUptoCardSaid : Prop := Claim7.holds Tryd.pinned (.plain (OpenSpec.upto checkAritySpec)) checkArityUptoCard

/-- THE SECOND FORM's CARD OF 'parchmentlaw07.ParseCut'. -/
def parseCutUptoCard : Claim7 := { stood := { row := parseCutUptoRow, standIns := [], harness := (true, "053210132799fb3920602c0184719ac29a8f3e23378487577cefccbb859cc1fa"), looks := true }, kinds := [], alts := [], laidByText := true, laidKinds := [.data, .data, .data, .widerDeep, .widerDeep, .pinned, .pinned], laidTests := true, laidLooks := .later }
def ParseCutUptoCardSaid : Prop := Claim7.holds Tryd.pinned (.plain (OpenSpec.upto parseCutSpec)) parseCutUptoCard

/-- THE SECOND FORM's CARD OF 'parchmentlaw07.ParseBlanks'. -/
def parseBlanksUptoCard : Claim7 := { stood := { row := parseBlanksUptoRow, standIns := [], harness := (true, "053210132799fb3920602c0184719ac29a8f3e23378487577cefccbb859cc1fa"), looks := true }, kinds := [], alts := [], laidByText := true, laidKinds := [.data, .data, .data, .widerDeep, .widerDeep, .pinned, .pinned], laidTests := true, laidLooks := .later }
def ParseBlanksUptoCardSaid : Prop := Claim7.holds Tryd.pinned (.plain (OpenSpec.upto parseBlanksSpec)) parseBlanksUptoCard
end Rows
end Go.Proofs.YtfigbonpcodfpaaDoor
