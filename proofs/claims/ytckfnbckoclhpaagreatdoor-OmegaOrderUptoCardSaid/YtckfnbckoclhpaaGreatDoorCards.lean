/-
  DERIVED. GIVEN WITH THE SEED: THE CARDS: each row of YtckfnbckoclhpaaGreatDoorRows.lean that lists a variable, with what it lists TIED to the program's text (the seventh form; the later family's looks); each row that meets fmt, with fmt's text TOLD by the authors' own Lean function (tested against real Go, not proved from fmt's source: count such statements apart). THE CARD IS WHAT COUNTS. Prove the row's statement (the work); the ties are given (YtckfnbckoclhpaaGreatDoorTie.lean); close each card by the builder's one call (the guide's Derived/Test/ToyasCard.lean, 'card_holds'). Laid BY PROGRAM, IN A SANDBOX (cutbox-door.mjs). By AI agents, Wed Nov 11 2026. No macro, syntax, notation, axiom, sorry.
-/
import Derived.Test.YtckfnbckoclhpaaGreatDoorRows
import GoSem.ClaimSeven
namespace Go.Proofs.YtckfnbckoclhpaaGreatDoor
namespace Rows

/-- THE TIED CARD OF 'touchstonelaw16.RowsOrder'. -/
def rowsOrderCard : Claim7 := { stood := { row := rowsOrderRow, standIns := [], harness := (true, "455b7b0ec9d36414a8dbc7fe0d53f957e91cc3f8b130613b8f8b90269e6b035c"), looks := false }, kinds := [], alts := [], laidByText := true, laidKinds := [.data, .pinned], laidTests := true, laidLooks := .later }
def RowsOrderCardSaid : Prop := Claim7.holds Tryz.pinned (.plain (OpenSpec.ofChange rowsOrderSpec)) rowsOrderCard

/-- THE TIED CARD OF 'touchstonelaw16.RowsSplits'. -/
def rowsSplitsCard : Claim7 := { stood := { row := rowsSplitsRow, standIns := [], harness := (true, "455b7b0ec9d36414a8dbc7fe0d53f957e91cc3f8b130613b8f8b90269e6b035c"), looks := false }, kinds := [], alts := [], laidByText := true, laidKinds := [.data, .pinned], laidTests := true, laidLooks := .later }
def RowsSplitsCardSaid : Prop := Claim7.holds Tryz.pinned (.plain (OpenSpec.ofChange rowsSplitsSpec)) rowsSplitsCard

/-- THE TIED CARD OF 'touchstonelaw16.RowsPuts'. -/
def rowsPutsCard : Claim7 := { stood := { row := rowsPutsRow, standIns := [], harness := (true, "455b7b0ec9d36414a8dbc7fe0d53f957e91cc3f8b130613b8f8b90269e6b035c"), looks := false }, kinds := [], alts := [], laidByText := true, laidKinds := [.data, .pinned], laidTests := true, laidLooks := .later }
def RowsPutsCardSaid : Prop := Claim7.holds Tryz.pinned (.plain (OpenSpec.ofChange rowsPutsSpec)) rowsPutsCard

/-- THE TIED CARD OF 'touchstonelaw17.OmegaOrder'. -/
def omegaOrderCard : Claim7 := { stood := { row := omegaOrderRow, standIns := [], harness := (true, "455b7b0ec9d36414a8dbc7fe0d53f957e91cc3f8b130613b8f8b90269e6b035c"), looks := false }, kinds := [], alts := [], laidByText := true, laidKinds := [.data, .pinned], laidTests := true, laidLooks := .later }
def OmegaOrderCardSaid : Prop := Claim7.holds Tryz.pinned (.plain (OpenSpec.ofChange omegaOrderSpec)) omegaOrderCard

/-- THE TIED CARD OF 'touchstonelaw17.OmegaMeets'. -/
def omegaMeetsCard : Claim7 := { stood := { row := omegaMeetsRow, standIns := [], harness := (true, "455b7b0ec9d36414a8dbc7fe0d53f957e91cc3f8b130613b8f8b90269e6b035c"), looks := false }, kinds := [], alts := [], laidByText := true, laidKinds := [.data, .pinned], laidTests := true, laidLooks := .later }
def OmegaMeetsCardSaid : Prop := Claim7.holds Tryz.pinned (.plain (OpenSpec.ofChange omegaMeetsSpec)) omegaMeetsCard

/-- THE SECOND FORM's CARD OF 'touchstonelaw16.RowsOrder'. -/
def rowsOrderUptoCard : Claim7 := { stood := { row := rowsOrderUptoRow, standIns := [], harness := (true, "455b7b0ec9d36414a8dbc7fe0d53f957e91cc3f8b130613b8f8b90269e6b035c"), looks := false }, kinds := [], alts := [], laidByText := true, laidKinds := [.data, .pinned], laidTests := true, laidLooks := .later }
def RowsOrderUptoCardSaid : Prop := Claim7.holds Tryz.pinned (.plain (OpenSpec.upto rowsOrderSpec)) rowsOrderUptoCard

/-- THE SECOND FORM's CARD OF 'touchstonelaw16.RowsSplits'. -/
def rowsSplitsUptoCard : Claim7 := { stood := { row := rowsSplitsUptoRow, standIns := [], harness := (true, "455b7b0ec9d36414a8dbc7fe0d53f957e91cc3f8b130613b8f8b90269e6b035c"), looks := false }, kinds := [], alts := [], laidByText := true, laidKinds := [.data, .pinned], laidTests := true, laidLooks := .later }
def RowsSplitsUptoCardSaid : Prop := Claim7.holds Tryz.pinned (.plain (OpenSpec.upto rowsSplitsSpec)) rowsSplitsUptoCard

/-- THE SECOND FORM's CARD OF 'touchstonelaw16.RowsPuts'. -/
def rowsPutsUptoCard : Claim7 := { stood := { row := rowsPutsUptoRow, standIns := [], harness := (true, "455b7b0ec9d36414a8dbc7fe0d53f957e91cc3f8b130613b8f8b90269e6b035c"), looks := false }, kinds := [], alts := [], laidByText := true, laidKinds := [.data, .pinned], laidTests := true, laidLooks := .later }
def RowsPutsUptoCardSaid : Prop := Claim7.holds Tryz.pinned (.plain (OpenSpec.upto rowsPutsSpec)) rowsPutsUptoCard

/-- THE SECOND FORM's CARD OF 'touchstonelaw17.OmegaOrder'. -/
def omegaOrderUptoCard : Claim7 := { stood := { row := omegaOrderUptoRow, standIns := [], harness := (true, "455b7b0ec9d36414a8dbc7fe0d53f957e91cc3f8b130613b8f8b90269e6b035c"), looks := false }, kinds := [], alts := [], laidByText := true, laidKinds := [.data, .pinned], laidTests := true, laidLooks := .later }
def OmegaOrderUptoCardSaid : Prop := Claim7.holds Tryz.pinned (.plain (OpenSpec.upto omegaOrderSpec)) omegaOrderUptoCard

/-- THE SECOND FORM's CARD OF 'touchstonelaw17.OmegaMeets'. -/
def omegaMeetsUptoCard : Claim7 := { stood := { row := omegaMeetsUptoRow, standIns := [], harness := (true, "455b7b0ec9d36414a8dbc7fe0d53f957e91cc3f8b130613b8f8b90269e6b035c"), looks := false }, kinds := [], alts := [], laidByText := true, laidKinds := [.data, .pinned], laidTests := true, laidLooks := .later }
def OmegaMeetsUptoCardSaid : Prop := Claim7.holds Tryz.pinned (.plain (OpenSpec.upto omegaMeetsSpec)) omegaMeetsUptoCard
end Rows
end Go.Proofs.YtckfnbckoclhpaaGreatDoor
