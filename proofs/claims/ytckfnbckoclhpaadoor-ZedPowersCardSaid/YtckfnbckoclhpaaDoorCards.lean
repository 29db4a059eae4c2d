/-
  DERIVED. GIVEN WITH THE SEED: THE CARDS: each row of YtckfnbckoclhpaaDoorRows.lean that lists a variable, with what it lists TIED to the program's text (the seventh form; the later family's looks); each row that meets fmt, with fmt's text TOLD by the authors' own Lean function (tested against real Go, not proved from fmt's source: count such statements apart). THE CARD IS WHAT COUNTS. Prove the row's statement (the work); the ties are given (YtckfnbckoclhpaaDoorTie.lean); close each card by the builder's one call (the guide's Derived/Test/ToyasCard.lean, 'card_holds'). Laid BY PROGRAM, IN A SANDBOX (cutbox-door.mjs). By AI agents, Wed Nov 11 2026. No macro, syntax, notation, axiom, sorry.
-/
import Derived.Test.YtckfnbckoclhpaaDoorRows
import GoSem.ClaimSeven
namespace Go.Proofs.YtckfnbckoclhpaaDoor
namespace Rows

/-- THE TIED CARD OF 'touchstonelaw01.ZedSmalls'. -/
def zedSmallsCard : Claim7 := { stood := { row := zedSmallsRow, standIns := [], harness := (true, "2e30e2c9b13218df21c56b801727557a9d53479fcecb7e7e27708104db250478"), looks := false }, kinds := [], alts := [], laidByText := true, laidKinds := [.data, .pinned], laidTests := true, laidLooks := .later }
def ZedSmallsCardSaid : Prop := Claim7.holds Tryd.pinned (.plain (OpenSpec.ofChange zedSmallsSpec)) zedSmallsCard

/-- THE TIED CARD OF 'touchstonelaw01.ZedParses'. -/
def zedParsesCard : Claim7 := { stood := { row := zedParsesRow, standIns := [], harness := (true, "2e30e2c9b13218df21c56b801727557a9d53479fcecb7e7e27708104db250478"), looks := false }, kinds := [], alts := [], laidByText := true, laidKinds := [.data, .pinned], laidTests := true, laidLooks := .later }
def ZedParsesCardSaid : Prop := Claim7.holds Tryd.pinned (.plain (OpenSpec.ofChange zedParsesSpec)) zedParsesCard

/-- THE TIED CARD OF 'touchstonelaw01.ZedDivides'. -/
def zedDividesCard : Claim7 := { stood := { row := zedDividesRow, standIns := [], harness := (true, "2e30e2c9b13218df21c56b801727557a9d53479fcecb7e7e27708104db250478"), looks := false }, kinds := [], alts := [], laidByText := true, laidKinds := [.data, .pinned], laidTests := true, laidLooks := .later }
def ZedDividesCardSaid : Prop := Claim7.holds Tryd.pinned (.plain (OpenSpec.ofChange zedDividesSpec)) zedDividesCard

/-- THE TIED CARD OF 'touchstonelaw01.ZedSums'. -/
def zedSumsCard : Claim7 := { stood := { row := zedSumsRow, standIns := [], harness := (true, "2e30e2c9b13218df21c56b801727557a9d53479fcecb7e7e27708104db250478"), looks := false }, kinds := [], alts := [], laidByText := true, laidKinds := [.data, .pinned], laidTests := true, laidLooks := .later }
def ZedSumsCardSaid : Prop := Claim7.holds Tryd.pinned (.plain (OpenSpec.ofChange zedSumsSpec)) zedSumsCard

/-- THE TIED CARD OF 'touchstonelaw01.ZedProducts'. -/
def zedProductsCard : Claim7 := { stood := { row := zedProductsRow, standIns := [], harness := (true, "2e30e2c9b13218df21c56b801727557a9d53479fcecb7e7e27708104db250478"), looks := false }, kinds := [], alts := [], laidByText := true, laidKinds := [.data, .pinned], laidTests := true, laidLooks := .later }
def ZedProductsCardSaid : Prop := Claim7.holds Tryd.pinned (.plain (OpenSpec.ofChange zedProductsSpec)) zedProductsCard

/-- THE TIED CARD OF 'touchstonelaw01.ZedLaws'. -/
def zedLawsCard : Claim7 := { stood := { row := zedLawsRow, standIns := [], harness := (true, "2e30e2c9b13218df21c56b801727557a9d53479fcecb7e7e27708104db250478"), looks := false }, kinds := [], alts := [], laidByText := true, laidKinds := [.data, .pinned], laidTests := true, laidLooks := .later }
def ZedLawsCardSaid : Prop := Claim7.holds Tryd.pinned (.plain (OpenSpec.ofChange zedLawsSpec)) zedLawsCard

/-- THE TIED CARD OF 'touchstonelaw01.ZedGcds'. -/
def zedGcdsCard : Claim7 := { stood := { row := zedGcdsRow, standIns := [], harness := (true, "2e30e2c9b13218df21c56b801727557a9d53479fcecb7e7e27708104db250478"), looks := false }, kinds := [], alts := [], laidByText := true, laidKinds := [.data, .pinned], laidTests := true, laidLooks := .later }
def ZedGcdsCardSaid : Prop := Claim7.holds Tryd.pinned (.plain (OpenSpec.ofChange zedGcdsSpec)) zedGcdsCard

/-- THE TIED CARD OF 'touchstonelaw01.ZedPowers'. -/
def zedPowersCard : Claim7 := { stood := { row := zedPowersRow, standIns := [], harness := (true, "2e30e2c9b13218df21c56b801727557a9d53479fcecb7e7e27708104db250478"), looks := false }, kinds := [], alts := [], laidByText := true, laidKinds := [.data, .pinned], laidTests := true, laidLooks := .later }
def ZedPowersCardSaid : Prop := Claim7.holds Tryd.pinned (.plain (OpenSpec.ofChange zedPowersSpec)) zedPowersCard

/-- THE SECOND FORM's CARD OF 'touchstonelaw01.ZedSmalls'. -/
def zedSmallsUptoCard : Claim7 := { stood := { row := zedSmallsUptoRow, standIns := [], harness := (true, "2e30e2c9b13218df21c56b801727557a9d53479fcecb7e7e27708104db250478"), looks := false }, kinds := [], alts := [], laidByText := true, laidKinds := [.data, .pinned], laidTests := true, laidLooks := .later }
def ZedSmallsUptoCardSaid : Prop := Claim7.holds Tryd.pinned (.plain (OpenSpec.upto zedSmallsSpec)) zedSmallsUptoCard

/-- THE SECOND FORM's CARD OF 'touchstonelaw01.ZedParses'. -/
def zedParsesUptoCard : Claim7 := { stood := { row := zedParsesUptoRow, standIns := [], harness := (true, "2e30e2c9b13218df21c56b801727557a9d53479fcecb7e7e27708104db250478"), looks := false }, kinds := [], alts := [], laidByText := true, laidKinds := [.data, .pinned], laidTests := true, laidLooks := .later }
def ZedParsesUptoCardSaid : Prop := Claim7.holds Tryd.pinned (.plain (OpenSpec.upto zedParsesSpec)) zedParsesUptoCard

/-- THE SECOND FORM's CARD OF 'touchstonelaw01.ZedDivides'. -/
def zedDividesUptoCard : Claim7 := { stood := { row := zedDividesUptoRow, standIns := [], harness := (true, "2e30e2c9b13218df21c56b801727557a9d53479fcecb7e7e27708104db250478"), looks := false }, kinds := [], alts := [], laidByText := true, laidKinds := [.data, .pinned], laidTests := true, laidLooks := .later }
def ZedDividesUptoCardSaid : Prop := Claim7.holds Tryd.pinned (.plain (OpenSpec.upto zedDividesSpec)) zedDividesUptoCard

/-- THE SECOND FORM's CARD OF 'touchstonelaw01.ZedSums'. -/
def zedSumsUptoCard : Claim7 := { stood := { row := zedSumsUptoRow, standIns := [], harness := (true, "2e30e2c9b13218df21c56b801727557a9d53479fcecb7e7e27708104db250478"), looks := false }, kinds := [], alts := [], laidByText := true, laidKinds := [.data, .pinned], laidTests := true, laidLooks := .later }
def ZedSumsUptoCardSaid : Prop := Claim7.holds Tryd.pinned (.plain (OpenSpec.upto zedSumsSpec)) zedSumsUptoCard

/-- THE SECOND FORM's CARD OF 'touchstonelaw01.ZedProducts'. -/
def zedProductsUptoCard : Claim7 := { stood := { row := zedProductsUptoRow, standIns := [], harness := (true, "2e30e2c9b13218df21c56b801727557a9d53479fcecb7e7e27708104db250478"), looks := false }, kinds := [], alts := [], laidByText := true, laidKinds := [.data, .pinned], laidTests := true, laidLooks := .later }
def ZedProductsUptoCardSaid : Prop := Claim7.holds Tryd.pinned (.plain (OpenSpec.upto zedProductsSpec)) zedProductsUptoCard

/-- THE SECOND FORM's CARD OF 'touchstonelaw01.ZedLaws'. -/
def zedLawsUptoCard : Claim7 := { stood := { row := zedLawsUptoRow, standIns := [], harness := (true, "2e30e2c9b13218df21c56b801727557a9d53479fcecb7e7e27708104db250478"), looks := false }, kinds := [], alts := [], laidByText := true, laidKinds := [.data, .pinned], laidTests := true, laidLooks := .later }
def ZedLawsUptoCardSaid : Prop := Claim7.holds Tryd.pinned (.plain (OpenSpec.upto zedLawsSpec)) zedLawsUptoCard

/-- THE SECOND FORM's CARD OF 'touchstonelaw01.ZedGcds'. -/
def zedGcdsUptoCard : Claim7 := { stood := { row := zedGcdsUptoRow, standIns := [], harness := (true, "2e30e2c9b13218df21c56b801727557a9d53479fcecb7e7e27708104db250478"), looks := false }, kinds := [], alts := [], laidByText := true, laidKinds := [.data, .pinned], laidTests := true, laidLooks := .later }
def ZedGcdsUptoCardSaid : Prop := Claim7.holds Tryd.pinned (.plain (OpenSpec.upto zedGcdsSpec)) zedGcdsUptoCard

/-- THE SECOND FORM's CARD OF 'touchstonelaw01.ZedPowers'. -/
def zedPowersUptoCard : Claim7 := { stood := { row := zedPowersUptoRow, standIns := [], harness := (true, "2e30e2c9b13218df21c56b801727557a9d53479fcecb7e7e27708104db250478"), looks := false }, kinds := [], alts := [], laidByText := true, laidKinds := [.data, .pinned], laidTests := true, laidLooks := .later }
def ZedPowersUptoCardSaid : Prop := Claim7.holds Tryd.pinned (.plain (OpenSpec.upto zedPowersSpec)) zedPowersUptoCard
end Rows
end Go.Proofs.YtckfnbckoclhpaaDoor
