/-
  DERIVED. GIVEN WITH THE SEED: THE CARDS: each row of YtbfbekkgmbfmhaaDoorRows.lean that lists a variable, with what it lists TIED to the program's text (the seventh form; the later family's looks); each row that meets fmt, with fmt's text TOLD by the authors' own Lean function (tested against real Go, not proved from fmt's source: count such statements apart). THE CARD IS WHAT COUNTS. Prove the row's statement (the work); the ties are given (YtbfbekkgmbfmhaaDoorTie.lean); close each card by the builder's one call (the guide's Derived/Test/ToyasCard.lean, 'card_holds'). Laid BY PROGRAM, IN A SANDBOX (cutbox-door.mjs). By AI agents, Wed Nov 11 2026. No macro, syntax, notation, axiom, sorry.
-/
import Derived.Test.YtbfbekkgmbfmhaaDoorRows
import GoSem.ClaimSeven
namespace Go.Proofs.YtbfbekkgmbfmhaaDoor
namespace Rows

/-- THE TIED CARD OF 'lockboxlaw08.PolyReckons'. -/
def polyReckonsCard : Claim7 := { stood := { row := polyReckonsRow, standIns := [], harness := (true, "4740a98034b790ae5dc5809aa83e925cb128e8a4455d4e7da0f3fb123254b910"), looks := false }, kinds := [], alts := [], laidByText := true, laidKinds := [.data, .pinned], laidTests := true, laidLooks := .later }
def PolyReckonsCardSaid : Prop := Claim7.holds Tryd.pinned (.plain (OpenSpec.ofChange polyReckonsSpec)) polyReckonsCard

/-- THE TIED CARD OF 'lockboxlaw08.PolyThrough'. -/
def polyThroughCard : Claim7 := { stood := { row := polyThroughRow, standIns := [], harness := (true, "4740a98034b790ae5dc5809aa83e925cb128e8a4455d4e7da0f3fb123254b910"), looks := false }, kinds := [], alts := [], laidByText := true, laidKinds := [.data, .pinned], laidTests := true, laidLooks := .later }
def PolyThroughCardSaid : Prop := Claim7.holds Tryd.pinned (.plain (OpenSpec.ofChange polyThroughSpec)) polyThroughCard

/-- THE TIED CARD OF 'lockboxlaw08.PolyOne'. -/
def polyOneCard : Claim7 := { stood := { row := polyOneRow, standIns := [], harness := (true, "4740a98034b790ae5dc5809aa83e925cb128e8a4455d4e7da0f3fb123254b910"), looks := false }, kinds := [], alts := [], laidByText := true, laidKinds := [.data, .pinned], laidTests := true, laidLooks := .later }
def PolyOneCardSaid : Prop := Claim7.holds Tryd.pinned (.plain (OpenSpec.ofChange polyOneSpec)) polyOneCard

/-- THE TIED CARD OF 'lockboxlaw08.PolyValues'. -/
def polyValuesCard : Claim7 := { stood := { row := polyValuesRow, standIns := [], harness := (true, "4740a98034b790ae5dc5809aa83e925cb128e8a4455d4e7da0f3fb123254b910"), looks := false }, kinds := [], alts := [], laidByText := true, laidKinds := [.data, .pinned], laidTests := true, laidLooks := .later }
def PolyValuesCardSaid : Prop := Claim7.holds Tryd.pinned (.plain (OpenSpec.ofChange polyValuesSpec)) polyValuesCard

/-- THE TIED CARD OF 'lockboxlaw08.PolyLinear'. -/
def polyLinearCard : Claim7 := { stood := { row := polyLinearRow, standIns := [], harness := (true, "4740a98034b790ae5dc5809aa83e925cb128e8a4455d4e7da0f3fb123254b910"), looks := false }, kinds := [], alts := [], laidByText := true, laidKinds := [.data, .pinned], laidTests := true, laidLooks := .later }
def PolyLinearCardSaid : Prop := Claim7.holds Tryd.pinned (.plain (OpenSpec.ofChange polyLinearSpec)) polyLinearCard

/-- THE TIED CARD OF 'lockboxlaw08.PolyWeights'. -/
def polyWeightsCard : Claim7 := { stood := { row := polyWeightsRow, standIns := [], harness := (true, "4740a98034b790ae5dc5809aa83e925cb128e8a4455d4e7da0f3fb123254b910"), looks := false }, kinds := [], alts := [], laidByText := true, laidKinds := [.data, .pinned], laidTests := true, laidLooks := .later }
def PolyWeightsCardSaid : Prop := Claim7.holds Tryd.pinned (.plain (OpenSpec.ofChange polyWeightsSpec)) polyWeightsCard

/-- THE TIED CARD OF 'lockboxlaw08.PolyRests'. -/
def polyRestsCard : Claim7 := { stood := { row := polyRestsRow, standIns := [], harness := (true, "4740a98034b790ae5dc5809aa83e925cb128e8a4455d4e7da0f3fb123254b910"), looks := false }, kinds := [], alts := [], laidByText := true, laidKinds := [.data, .pinned], laidTests := true, laidLooks := .later }
def PolyRestsCardSaid : Prop := Claim7.holds Tryd.pinned (.plain (OpenSpec.ofChange polyRestsSpec)) polyRestsCard

/-- THE TIED CARD OF 'lockboxlaw09.ShamirSplits'. -/
def shamirSplitsCard : Claim7 := { stood := { row := shamirSplitsRow, standIns := [], harness := (true, "4740a98034b790ae5dc5809aa83e925cb128e8a4455d4e7da0f3fb123254b910"), looks := false }, kinds := [], alts := [], laidByText := true, laidKinds := [.data, .pinned], laidTests := true, laidLooks := .later }
def ShamirSplitsCardSaid : Prop := Claim7.holds Tryd.pinned (.plain (OpenSpec.ofChange shamirSplitsSpec)) shamirSplitsCard

/-- THE TIED CARD OF 'lockboxlaw09.ShamirOdd'. -/
def shamirOddCard : Claim7 := { stood := { row := shamirOddRow, standIns := [], harness := (true, "4740a98034b790ae5dc5809aa83e925cb128e8a4455d4e7da0f3fb123254b910"), looks := false }, kinds := [], alts := [], laidByText := true, laidKinds := [.data, .pinned], laidTests := true, laidLooks := .later }
def ShamirOddCardSaid : Prop := Claim7.holds Tryd.pinned (.plain (OpenSpec.ofChange shamirOddSpec)) shamirOddCard

/-- THE TIED CARD OF 'lockboxlaw09.ShamirCombines'. -/
def shamirCombinesCard : Claim7 := { stood := { row := shamirCombinesRow, standIns := [], harness := (true, "4740a98034b790ae5dc5809aa83e925cb128e8a4455d4e7da0f3fb123254b910"), looks := false }, kinds := [], alts := [], laidByText := true, laidKinds := [.data, .pinned], laidTests := true, laidLooks := .later }
def ShamirCombinesCardSaid : Prop := Claim7.holds Tryd.pinned (.plain (OpenSpec.ofChange shamirCombinesSpec)) shamirCombinesCard

/-- THE TIED CARD OF 'lockboxlaw09.ShamirAny'. -/
def shamirAnyCard : Claim7 := { stood := { row := shamirAnyRow, standIns := [], harness := (true, "4740a98034b790ae5dc5809aa83e925cb128e8a4455d4e7da0f3fb123254b910"), looks := false }, kinds := [], alts := [], laidByText := true, laidKinds := [.data, .pinned], laidTests := true, laidLooks := .later }
def ShamirAnyCardSaid : Prop := Claim7.holds Tryd.pinned (.plain (OpenSpec.ofChange shamirAnySpec)) shamirAnyCard

/-- THE TIED CARD OF 'lockboxlaw09.ShamirSecret'. -/
def shamirSecretCard : Claim7 := { stood := { row := shamirSecretRow, standIns := [], harness := (true, "4740a98034b790ae5dc5809aa83e925cb128e8a4455d4e7da0f3fb123254b910"), looks := false }, kinds := [], alts := [], laidByText := true, laidKinds := [.data, .pinned], laidTests := true, laidLooks := .later }
def ShamirSecretCardSaid : Prop := Claim7.holds Tryd.pinned (.plain (OpenSpec.ofChange shamirSecretSpec)) shamirSecretCard

/-- THE TIED CARD OF 'lockboxlaw09.ShamirRefreshes'. -/
def shamirRefreshesCard : Claim7 := { stood := { row := shamirRefreshesRow, standIns := [], harness := (true, "4740a98034b790ae5dc5809aa83e925cb128e8a4455d4e7da0f3fb123254b910"), looks := false }, kinds := [], alts := [], laidByText := true, laidKinds := [.data, .pinned], laidTests := true, laidLooks := .later }
def ShamirRefreshesCardSaid : Prop := Claim7.holds Tryd.pinned (.plain (OpenSpec.ofChange shamirRefreshesSpec)) shamirRefreshesCard

/-- THE SECOND FORM's CARD OF 'lockboxlaw08.PolyReckons'. -/
def polyReckonsUptoCard : Claim7 := { stood := { row := polyReckonsUptoRow, standIns := [], harness := (true, "4740a98034b790ae5dc5809aa83e925cb128e8a4455d4e7da0f3fb123254b910"), looks := false }, kinds := [], alts := [], laidByText := true, laidKinds := [.data, .pinned], laidTests := true, laidLooks := .later }
def PolyReckonsUptoCardSaid : Prop := Claim7.holds Tryd.pinned (.plain (OpenSpec.upto polyReckonsSpec)) polyReckonsUptoCard

/-- THE SECOND FORM's CARD OF 'lockboxlaw08.PolyThrough'. -/
def polyThroughUptoCard : Claim7 := { stood := { row := polyThroughUptoRow, standIns := [], harness := (true, "4740a98034b790ae5dc5809aa83e925cb128e8a4455d4e7da0f3fb123254b910"), looks := false }, kinds := [], alts := [], laidByText := true, laidKinds := [.data, .pinned], laidTests := true, laidLooks := .later }
def PolyThroughUptoCardSaid : Prop := Claim7.holds Tryd.pinned (.plain (OpenSpec.upto polyThroughSpec)) polyThroughUptoCard

/-- THE SECOND FORM's CARD OF 'lockboxlaw08.PolyOne'. -/
def polyOneUptoCard : Claim7 := { stood := { row := polyOneUptoRow, standIns := [], harness := (true, "4740a98034b790ae5dc5809aa83e925cb128e8a4455d4e7da0f3fb123254b910"), looks := false }, kinds := [], alts := [], laidByText := true, laidKinds := [.data, .pinned], laidTests := true, laidLooks := .later }
def PolyOneUptoCardSaid : Prop := Claim7.holds Tryd.pinned (.plain (OpenSpec.upto polyOneSpec)) polyOneUptoCard

/-- THE SECOND FORM's CARD OF 'lockboxlaw08.PolyValues'. -/
def polyValuesUptoCard : Claim7 := { stood := { row := polyValuesUptoRow, standIns := [], harness := (true, "4740a98034b790ae5dc5809aa83e925cb128e8a4455d4e7da0f3fb123254b910"), looks := false }, kinds := [], alts := [], laidByText := true, laidKinds := [.data, .pinned], laidTests := true, laidLooks := .later }
def PolyValuesUptoCardSaid : Prop := Claim7.holds Tryd.pinned (.plain (OpenSpec.upto polyValuesSpec)) polyValuesUptoCard

/-- THE SECOND FORM's CARD OF 'lockboxlaw08.PolyLinear'. -/
def polyLinearUptoCard : Claim7 := { stood := { row := polyLinearUptoRow, standIns := [], harness := (true, "4740a98034b790ae5dc5809aa83e925cb128e8a4455d4e7da0f3fb123254b910"), looks := false }, kinds := [], alts := [], laidByText := true, laidKinds := [.data, .pinned], laidTests := true, laidLooks := .later }
def PolyLinearUptoCardSaid : Prop := Claim7.holds Tryd.pinned (.plain (OpenSpec.upto polyLinearSpec)) polyLinearUptoCard

/-- THE SECOND FORM's CARD OF 'lockboxlaw08.PolyWeights'. -/
def polyWeightsUptoCard : Claim7 := { stood := { row := polyWeightsUptoRow, standIns := [], harness := (true, "4740a98034b790ae5dc5809aa83e925cb128e8a4455d4e7da0f3fb123254b910"), looks := false }, kinds := [], alts := [], laidByText := true, laidKinds := [.data, .pinned], laidTests := true, laidLooks := .later }
def PolyWeightsUptoCardSaid : Prop := Claim7.holds Tryd.pinned (.plain (OpenSpec.upto polyWeightsSpec)) polyWeightsUptoCard

/-- THE SECOND FORM's CARD OF 'lockboxlaw08.PolyRests'. -/
def polyRestsUptoCard : Claim7 := { stood := { row := polyRestsUptoRow, standIns := [], harness := (true, "4740a98034b790ae5dc5809aa83e925cb128e8a4455d4e7da0f3fb123254b910"), looks := false }, kinds := [], alts := [], laidByText := true, laidKinds := [.data, .pinned], laidTests := true, laidLooks := .later }
def PolyRestsUptoCardSaid : Prop := Claim7.holds Tryd.pinned (.plain (OpenSpec.upto polyRestsSpec)) polyRestsUptoCard

/-- THE SECOND FORM's CARD OF 'lockboxlaw09.ShamirSplits'. -/
def shamirSplitsUptoCard : Claim7 := { stood := { row := shamirSplitsUptoRow, standIns := [], harness := (true, "4740a98034b790ae5dc5809aa83e925cb128e8a4455d4e7da0f3fb123254b910"), looks := false }, kinds := [], alts := [], laidByText := true, laidKinds := [.data, .pinned], laidTests := true, laidLooks := .later }
def ShamirSplitsUptoCardSaid : Prop := Claim7.holds Tryd.pinned (.plain (OpenSpec.upto shamirSplitsSpec)) shamirSplitsUptoCard

/-- THE SECOND FORM's CARD OF 'lockboxlaw09.ShamirOdd'. -/
def shamirOddUptoCard : Claim7 := { stood := { row := shamirOddUptoRow, standIns := [], harness := (true, "4740a98034b790ae5dc5809aa83e925cb128e8a4455d4e7da0f3fb123254b910"), looks := false }, kinds := [], alts := [], laidByText := true, laidKinds := [.data, .pinned], laidTests := true, laidLooks := .later }
def ShamirOddUptoCardSaid : Prop := Claim7.holds Tryd.pinned (.plain (OpenSpec.upto shamirOddSpec)) shamirOddUptoCard

/-- THE SECOND FORM's CARD OF 'lockboxlaw09.ShamirCombines'. -/
def shamirCombinesUptoCard : Claim7 := { stood := { row := shamirCombinesUptoRow, standIns := [], harness := (true, "4740a98034b790ae5dc5809aa83e925cb128e8a4455d4e7da0f3fb123254b910"), looks := false }, kinds := [], alts := [], laidByText := true, laidKinds := [.data, .pinned], laidTests := true, laidLooks := .later }
def ShamirCombinesUptoCardSaid : Prop := Claim7.holds Tryd.pinned (.plain (OpenSpec.upto shamirCombinesSpec)) shamirCombinesUptoCard

/-- THE SECOND FORM's CARD OF 'lockboxlaw09.ShamirAny'. -/
def shamirAnyUptoCard : Claim7 := { stood := { row := shamirAnyUptoRow, standIns := [], harness := (true, "4740a98034b790ae5dc5809aa83e925cb128e8a4455d4e7da0f3fb123254b910"), looks := false }, kinds := [], alts := [], laidByText := true, laidKinds := [.data, .pinned], laidTests := true, laidLooks := .later }
def ShamirAnyUptoCardSaid : Prop := Claim7.holds Tryd.pinned (.plain (OpenSpec.upto shamirAnySpec)) shamirAnyUptoCard

/-- THE SECOND FORM's CARD OF 'lockboxlaw09.ShamirSecret'. -/
def shamirSecretUptoCard : Claim7 := { stood := { row := shamirSecretUptoRow, standIns := [], harness := (true, "4740a98034b790ae5dc5809aa83e925cb128e8a4455d4e7da0f3fb123254b910"), looks := false }, kinds := [], alts := [], laidByText := true, laidKinds := [.data, .pinned], laidTests := true, laidLooks := .later }
def ShamirSecretUptoCardSaid : Prop := Claim7.holds Tryd.pinned (.plain (OpenSpec.upto shamirSecretSpec)) shamirSecretUptoCard

/-- THE SECOND FORM's CARD OF 'lockboxlaw09.ShamirRefreshes'. -/
def shamirRefreshesUptoCard : Claim7 := { stood := { row := shamirRefreshesUptoRow, standIns := [], harness := (true, "4740a98034b790ae5dc5809aa83e925cb128e8a4455d4e7da0f3fb123254b910"), looks := false }, kinds := [], alts := [], laidByText := true, laidKinds := [.data, .pinned], laidTests := true, laidLooks := .later }
def ShamirRefreshesUptoCardSaid : Prop := Claim7.holds Tryd.pinned (.plain (OpenSpec.upto shamirRefreshesSpec)) shamirRefreshesUptoCard
end Rows
end Go.Proofs.YtbfbekkgmbfmhaaDoor
