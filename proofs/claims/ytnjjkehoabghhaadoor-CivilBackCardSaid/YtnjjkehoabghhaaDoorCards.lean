/-
  DERIVED. GIVEN WITH THE SEED: THE CARDS: each row of YtnjjkehoabghhaaDoorRows.lean that lists a variable, with what it lists TIED to the program's text (the seventh form; the later family's looks); each row that meets fmt, with fmt's text TOLD by the authors' own Lean function (tested against real Go, not proved from fmt's source: count such statements apart). THE CARD IS WHAT COUNTS. Prove the row's statement (the work); the ties are given (YtnjjkehoabghhaaDoorTie.lean); close each card by the builder's one call (the guide's Derived/Test/ToyasCard.lean, 'card_holds'). Laid BY PROGRAM, IN A SANDBOX (cutbox-door.mjs). By AI agents, Wed Nov 11 2026. No macro, syntax, notation, axiom, sorry.
-/
import Derived.Test.YtnjjkehoabghhaaDoorRows
import GoSem.ClaimSeven
namespace Go.Proofs.YtnjjkehoabghhaaDoor
namespace Rows

/-- THE TIED CARD OF 'falseworklaw03.CivilNames'. -/
def civilNamesCard : Claim7 := { stood := { row := civilNamesRow, standIns := [], harness := (true, "fc95625ddf2bc64e46824fadf1d182a2cc4d6b79c0003399996211e1a13363cb"), looks := true }, kinds := [], alts := [], laidByText := true, laidKinds := [.data, .data, .data], laidTests := true, laidLooks := .later }
def CivilNamesCardSaid : Prop := Claim7.holds Tryd.pinned (.plain (OpenSpec.ofChange civilNamesSpec)) civilNamesCard

/-- THE TIED CARD OF 'falseworklaw03.CivilTells'. -/
def civilTellsCard : Claim7 := { stood := { row := civilTellsRow, standIns := [], harness := (true, "fc95625ddf2bc64e46824fadf1d182a2cc4d6b79c0003399996211e1a13363cb"), looks := true }, kinds := [], alts := [], laidByText := true, laidKinds := [.data, .data, .data], laidTests := true, laidLooks := .later }
def CivilTellsCardSaid : Prop := Claim7.holds Tryd.pinned (.plain (OpenSpec.ofChange civilTellsSpec)) civilTellsCard

/-- THE TIED CARD OF 'falseworklaw03.CivilCounts'. -/
def civilCountsCard : Claim7 := { stood := { row := civilCountsRow, standIns := [], harness := (true, "fc95625ddf2bc64e46824fadf1d182a2cc4d6b79c0003399996211e1a13363cb"), looks := true }, kinds := [], alts := [], laidByText := true, laidKinds := [.data, .data, .data], laidTests := true, laidLooks := .later }
def CivilCountsCardSaid : Prop := Claim7.holds Tryd.pinned (.plain (OpenSpec.ofChange civilCountsSpec)) civilCountsCard

/-- THE TIED CARD OF 'falseworklaw03.CivilNext'. -/
def civilNextCard : Claim7 := { stood := { row := civilNextRow, standIns := [], harness := (true, "fc95625ddf2bc64e46824fadf1d182a2cc4d6b79c0003399996211e1a13363cb"), looks := true }, kinds := [], alts := [], laidByText := true, laidKinds := [.data, .data, .data], laidTests := true, laidLooks := .later }
def CivilNextCardSaid : Prop := Claim7.holds Tryd.pinned (.plain (OpenSpec.ofChange civilNextSpec)) civilNextCard

/-- THE TIED CARD OF 'falseworklaw03.CivilWeeks'. -/
def civilWeeksCard : Claim7 := { stood := { row := civilWeeksRow, standIns := [], harness := (true, "fc95625ddf2bc64e46824fadf1d182a2cc4d6b79c0003399996211e1a13363cb"), looks := true }, kinds := [], alts := [], laidByText := true, laidKinds := [.data, .data, .data], laidTests := true, laidLooks := .later }
def CivilWeeksCardSaid : Prop := Claim7.holds Tryd.pinned (.plain (OpenSpec.ofChange civilWeeksSpec)) civilWeeksCard

/-- THE TIED CARD OF 'falseworklaw03.CivilParses'. -/
def civilParsesCard : Claim7 := { stood := { row := civilParsesRow, standIns := [], harness := (true, "fc95625ddf2bc64e46824fadf1d182a2cc4d6b79c0003399996211e1a13363cb"), looks := true }, kinds := [], alts := [], laidByText := true, laidKinds := [.data, .data, .data, .sentinel, .sentinel], laidTests := true, laidLooks := .later }
def CivilParsesCardSaid : Prop := Claim7.holds Tryd.pinned (.plain (OpenSpec.ofChange civilParsesSpec)) civilParsesCard

/-- THE TIED CARD OF 'falseworklaw03.CivilBack'. -/
def civilBackCard : Claim7 := { stood := { row := civilBackRow, standIns := [], harness := (true, "fc95625ddf2bc64e46824fadf1d182a2cc4d6b79c0003399996211e1a13363cb"), looks := true }, kinds := [], alts := [], laidByText := true, laidKinds := [.data, .data, .data, .sentinel, .sentinel], laidTests := true, laidLooks := .later }
def CivilBackCardSaid : Prop := Claim7.holds Tryd.pinned (.plain (OpenSpec.ofChange civilBackSpec)) civilBackCard

/-- THE SECOND FORM's CARD OF 'falseworklaw03.CivilNames'. -/
def civilNamesUptoCard : Claim7 := { stood := { row := civilNamesUptoRow, standIns := [], harness := (true, "fc95625ddf2bc64e46824fadf1d182a2cc4d6b79c0003399996211e1a13363cb"), looks := true }, kinds := [], alts := [], laidByText := true, laidKinds := [.data, .data, .data], laidTests := true, laidLooks := .later }
def CivilNamesUptoCardSaid : Prop := Claim7.holds Tryd.pinned (.plain (OpenSpec.upto civilNamesSpec)) civilNamesUptoCard

/-- THE SECOND FORM's CARD OF 'falseworklaw03.CivilTells'. -/
def civilTellsUptoCard : Claim7 := { stood := { row := civilTellsUptoRow, standIns := [], harness := (true, "fc95625ddf2bc64e46824fadf1d182a2cc4d6b79c0003399996211e1a13363cb"), looks := true }, kinds := [], alts := [], laidByText := true, laidKinds := [.data, .data, .data], laidTests := true, laidLooks := .later }
def CivilTellsUptoCardSaid : Prop := Claim7.holds Tryd.pinned (.plain (OpenSpec.upto civilTellsSpec)) civilTellsUptoCard

/-- THE SECOND FORM's CARD OF 'falseworklaw03.CivilCounts'. -/
def civilCountsUptoCard : Claim7 := { stood := { row := civilCountsUptoRow, standIns := [], harness := (true, "fc95625ddf2bc64e46824fadf1d182a2cc4d6b79c0003399996211e1a13363cb"), looks := true }, kinds := [], alts := [], laidByText := true, laidKinds := [.data, .data, .data], laidTests := true, laidLooks := .later }
def CivilCountsUptoCardSaid : Prop := Claim7.holds Tryd.pinned (.plain (OpenSpec.upto civilCountsSpec)) civilCountsUptoCard

/-- THE SECOND FORM's CARD OF 'falseworklaw03.CivilNext'. -/
def civilNextUptoCard : Claim7 := { stood := { row := civilNextUptoRow, standIns := [], harness := (true, "fc95625ddf2bc64e46824fadf1d182a2cc4d6b79c0003399996211e1a13363cb"), looks := true }, kinds := [], alts := [], laidByText := true, laidKinds := [.data, .data, .data], laidTests := true, laidLooks := .later }
def CivilNextUptoCardSaid : Prop := Claim7.holds Tryd.pinned (.plain (OpenSpec.upto civilNextSpec)) civilNextUptoCard

/-- THE SECOND FORM's CARD OF 'falseworklaw03.CivilWeeks'. -/
def civilWeeksUptoCard : Claim7 := { stood := { row := civilWeeksUptoRow, standIns := [], harness := (true, "fc95625ddf2bc64e46824fadf1d182a2cc4d6b79c0003399996211e1a13363cb"), looks := true }, kinds := [], alts := [], laidByText := true, laidKinds := [.data, .data, .data], laidTests := true, laidLooks := .later }
def CivilWeeksUptoCardSaid : Prop := Claim7.holds Tryd.pinned (.plain (OpenSpec.upto civilWeeksSpec)) civilWeeksUptoCard

/-- THE SECOND FORM's CARD OF 'falseworklaw03.CivilParses'. -/
def civilParsesUptoCard : Claim7 := { stood := { row := civilParsesUptoRow, standIns := [], harness := (true, "fc95625ddf2bc64e46824fadf1d182a2cc4d6b79c0003399996211e1a13363cb"), looks := true }, kinds := [], alts := [], laidByText := true, laidKinds := [.data, .data, .data, .sentinel, .sentinel], laidTests := true, laidLooks := .later }
def CivilParsesUptoCardSaid : Prop := Claim7.holds Tryd.pinned (.plain (OpenSpec.upto civilParsesSpec)) civilParsesUptoCard

/-- THE SECOND FORM's CARD OF 'falseworklaw03.CivilBack'. -/
def civilBackUptoCard : Claim7 := { stood := { row := civilBackUptoRow, standIns := [], harness := (true, "fc95625ddf2bc64e46824fadf1d182a2cc4d6b79c0003399996211e1a13363cb"), looks := true }, kinds := [], alts := [], laidByText := true, laidKinds := [.data, .data, .data, .sentinel, .sentinel], laidTests := true, laidLooks := .later }
def CivilBackUptoCardSaid : Prop := Claim7.holds Tryd.pinned (.plain (OpenSpec.upto civilBackSpec)) civilBackUptoCard
end Rows
end Go.Proofs.YtnjjkehoabghhaaDoor
