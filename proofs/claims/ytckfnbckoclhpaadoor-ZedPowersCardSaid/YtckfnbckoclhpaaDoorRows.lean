/-
  NARROWER THAN 'FOR EVERY INPUT', by the rows' own cells (each row's printed sentence says how): ZedSmalls: laid · ZedParses: laid · ZedDivides: laid · ZedSums: laid · ZedProducts: laid · ZedLaws: laid · ZedGcds: laid · ZedPowers: laid.
  DERIVED. THE GIVEN ROWS OF THIS SEAT. 8 by the template 'for every input the law returns true; each argument reads behind the call as it read before'; 0 by the template 'total and deterministic' (their statements: YtckfnbckoclhpaaDoorTotals.lean).
  GIVEN WITH THE SEED: the statements are not yours to turn. If you find one false, say at which input.
  Laid BY PROGRAM, IN A SANDBOX (cutbox-rows.mjs): the forced cells as the released guide's own fill.sh prints them over the translation 9e69fc13152f7b8a… (all of the seat's roots in one cut). By AI agents, Wed Nov 11 2026. No macro, syntax, notation, axiom, sorry.
-/
import Derived.Test.YtckfnbckoclhpaaDoorChecked
import GoSem.PinnedTables
import GoSem.Claim
import GoSem.ClaimJoined
import GoSem.ClaimMapViews
import Derived.JoinedTies
import Derived.KernelRfl
namespace Go.Proofs.YtckfnbckoclhpaaDoor
/- THE CELL 'sum', in the pinned program and in every row, IS THE sha256 OF THE DUMP (.gsa) THAT YtckfnbckoclhpaaDoorProg.lean LOADS. Nothing in Lean hashes anything: it is a label: what it is worth is what the hold of that sum in a sandbox is worth. -/
noncomputable def Tryd.pinned : Pinned := { name := "ytckfnbckoclhpaadoor", sum := "9e69fc13152f7b8aed87d77ae7729fca9856387e3e7dc88379899bfcb86e8968", checked := Tryd.checked }
namespace Rows
def none {H : Type} : Left H := { results := [], args := [] }

/- WHAT THE LISTED PACKAGE-LEVEL VARIABLES READ AS WHEN THE CALL BEGINS. Each datum BY PROGRAM (the guide's laid-datum.mjs) off the statement by which the dump's own 'gosem.cut.vars' lays the variable. In a bare row this is a premise. The card (YtckfnbckoclhpaaDoorCards.lean) ties it to the program's text. -/
def laid_unicode_utf8_acceptRanges {H : Type} : DataW H := .agg [.agg [.lit (.int .u8 128), .lit (.int .u8 191)], .agg [.lit (.int .u8 160), .lit (.int .u8 191)], .agg [.lit (.int .u8 128), .lit (.int .u8 159)], .agg [.lit (.int .u8 144), .lit (.int .u8 191)], .agg [.lit (.int .u8 128), .lit (.int .u8 143)], .agg [.lit (.int .u8 0), .lit (.int .u8 0)], .agg [.lit (.int .u8 0), .lit (.int .u8 0)], .agg [.lit (.int .u8 0), .lit (.int .u8 0)], .agg [.lit (.int .u8 0), .lit (.int .u8 0)], .agg [.lit (.int .u8 0), .lit (.int .u8 0)], .agg [.lit (.int .u8 0), .lit (.int .u8 0)], .agg [.lit (.int .u8 0), .lit (.int .u8 0)], .agg [.lit (.int .u8 0), .lit (.int .u8 0)], .agg [.lit (.int .u8 0), .lit (.int .u8 0)], .agg [.lit (.int .u8 0), .lit (.int .u8 0)], .agg [.lit (.int .u8 0), .lit (.int .u8 0)]]
/-- One of Go's own tables, pinned by name: the form's constant. -/
def laid_unicode_utf8_first : DataW Unit := Go.Pinned.utf8First

/-- 'touchstonelaw01.ZedSmalls': WHATEVER THE INPUT: true; the input reads as it did. -/
def zedSmallsSpec : ChangeSpec := { name := "zedSmalls", fn := fun _ => fun
  | [d1, d2] => { results := [.lit (.bool true)], args := [d1, d2] }
  | _ => none }
def zedSmallsRow : OpenClaim := { program := "ytckfnbckoclhpaadoor", sum := "9e69fc13152f7b8aed87d77ae7729fca9856387e3e7dc88379899bfcb86e8968", func := "touchstone/touchstonelaw01.ZedSmalls", spec := "zedSmalls", inPlace := ["internal/bytealg.IndexByteString", "internal/bytealg.IndexString"], named := ["unicode/utf8.first", "unicode/utf8.acceptRanges", "internal/bytealg.MaxLen"], apart := false, laid := [("unicode/utf8.acceptRanges", laid_unicode_utf8_acceptRanges), ("unicode/utf8.first", laid_unicode_utf8_first)] }
def ZedSmallsSaid : Prop := zedSmallsRow.holds Tryd.pinned (OpenSpec.ofChange zedSmallsSpec)

/-- ITS FALSE NEIGHBOUR: 'it returns false'. Refute it at one input. -/
def zedSmallsWrong : ChangeSpec := { name := "zedSmalls", fn := fun _ => fun
  | [d1, d2] => { results := [.lit (.bool false)], args := [d1, d2] }
  | _ => none }
def ZedSmallsWrongFalsely : Prop := zedSmallsRow.holds Tryd.pinned (OpenSpec.ofChange zedSmallsWrong)

/-- 'touchstonelaw01.ZedParses': WHATEVER THE INPUT: true; the input reads as it did. -/
def zedParsesSpec : ChangeSpec := { name := "zedParses", fn := fun _ => fun
  | [d] => { results := [.lit (.bool true)], args := [d] }
  | _ => none }
def zedParsesRow : OpenClaim := { program := "ytckfnbckoclhpaadoor", sum := "9e69fc13152f7b8aed87d77ae7729fca9856387e3e7dc88379899bfcb86e8968", func := "touchstone/touchstonelaw01.ZedParses", spec := "zedParses", inPlace := ["internal/bytealg.IndexByteString", "internal/bytealg.IndexString"], named := ["unicode/utf8.first", "unicode/utf8.acceptRanges", "internal/bytealg.MaxLen"], apart := false, laid := [("unicode/utf8.acceptRanges", laid_unicode_utf8_acceptRanges), ("unicode/utf8.first", laid_unicode_utf8_first)] }
def ZedParsesSaid : Prop := zedParsesRow.holds Tryd.pinned (OpenSpec.ofChange zedParsesSpec)

/-- ITS FALSE NEIGHBOUR: 'it returns false'. Refute it at one input. -/
def zedParsesWrong : ChangeSpec := { name := "zedParses", fn := fun _ => fun
  | [d] => { results := [.lit (.bool false)], args := [d] }
  | _ => none }
def ZedParsesWrongFalsely : Prop := zedParsesRow.holds Tryd.pinned (OpenSpec.ofChange zedParsesWrong)

/-- 'touchstonelaw01.ZedDivides': WHATEVER THE INPUT: true; the input reads as it did. -/
def zedDividesSpec : ChangeSpec := { name := "zedDivides", fn := fun _ => fun
  | [d1, d2] => { results := [.lit (.bool true)], args := [d1, d2] }
  | _ => none }
def zedDividesRow : OpenClaim := { program := "ytckfnbckoclhpaadoor", sum := "9e69fc13152f7b8aed87d77ae7729fca9856387e3e7dc88379899bfcb86e8968", func := "touchstone/touchstonelaw01.ZedDivides", spec := "zedDivides", inPlace := ["internal/bytealg.IndexByteString", "internal/bytealg.IndexString"], named := ["unicode/utf8.first", "unicode/utf8.acceptRanges", "internal/bytealg.MaxLen"], apart := false, laid := [("unicode/utf8.acceptRanges", laid_unicode_utf8_acceptRanges), ("unicode/utf8.first", laid_unicode_utf8_first)] }
def ZedDividesSaid : Prop := zedDividesRow.holds Tryd.pinned (OpenSpec.ofChange zedDividesSpec)

/-- ITS FALSE NEIGHBOUR: 'it returns false'. Refute it at one input. -/
def zedDividesWrong : ChangeSpec := { name := "zedDivides", fn := fun _ => fun
  | [d1, d2] => { results := [.lit (.bool false)], args := [d1, d2] }
  | _ => none }
def ZedDividesWrongFalsely : Prop := zedDividesRow.holds Tryd.pinned (OpenSpec.ofChange zedDividesWrong)

/-- 'touchstonelaw01.ZedSums': WHATEVER THE INPUT: true; the input reads as it did. -/
def zedSumsSpec : ChangeSpec := { name := "zedSums", fn := fun _ => fun
  | [d1, d2] => { results := [.lit (.bool true)], args := [d1, d2] }
  | _ => none }
def zedSumsRow : OpenClaim := { program := "ytckfnbckoclhpaadoor", sum := "9e69fc13152f7b8aed87d77ae7729fca9856387e3e7dc88379899bfcb86e8968", func := "touchstone/touchstonelaw01.ZedSums", spec := "zedSums", inPlace := ["internal/bytealg.IndexByteString", "internal/bytealg.IndexString"], named := ["unicode/utf8.first", "unicode/utf8.acceptRanges", "internal/bytealg.MaxLen"], apart := false, laid := [("unicode/utf8.acceptRanges", laid_unicode_utf8_acceptRanges), ("unicode/utf8.first", laid_unicode_utf8_first)] }
def ZedSumsSaid : Prop := zedSumsRow.holds Tryd.pinned (OpenSpec.ofChange zedSumsSpec)

/-- ITS FALSE NEIGHBOUR: 'it returns false'. Refute it at one input. -/
def zedSumsWrong : ChangeSpec := { name := "zedSums", fn := fun _ => fun
  | [d1, d2] => { results := [.lit (.bool false)], args := [d1, d2] }
  | _ => none }
def ZedSumsWrongFalsely : Prop := zedSumsRow.holds Tryd.pinned (OpenSpec.ofChange zedSumsWrong)

/-- 'touchstonelaw01.ZedProducts': WHATEVER THE INPUT: true; the input reads as it did. -/
def zedProductsSpec : ChangeSpec := { name := "zedProducts", fn := fun _ => fun
  | [d1, d2] => { results := [.lit (.bool true)], args := [d1, d2] }
  | _ => none }
def zedProductsRow : OpenClaim := { program := "ytckfnbckoclhpaadoor", sum := "9e69fc13152f7b8aed87d77ae7729fca9856387e3e7dc88379899bfcb86e8968", func := "touchstone/touchstonelaw01.ZedProducts", spec := "zedProducts", inPlace := ["internal/bytealg.IndexByteString", "internal/bytealg.IndexString"], named := ["unicode/utf8.first", "unicode/utf8.acceptRanges", "internal/bytealg.MaxLen"], apart := false, laid := [("unicode/utf8.acceptRanges", laid_unicode_utf8_acceptRanges), ("unicode/utf8.first", laid_unicode_utf8_first)] }
def ZedProductsSaid : Prop := zedProductsRow.holds Tryd.pinned (OpenSpec.ofChange zedProductsSpec)

/-- ITS FALSE NEIGHBOUR: 'it returns false'. Refute it at one input. -/
def zedProductsWrong : ChangeSpec := { name := "zedProducts", fn := fun _ => fun
  | [d1, d2] => { results := [.lit (.bool false)], args := [d1, d2] }
  | _ => none }
def ZedProductsWrongFalsely : Prop := zedProductsRow.holds Tryd.pinned (OpenSpec.ofChange zedProductsWrong)

/-- 'touchstonelaw01.ZedLaws': WHATEVER THE INPUT: true; the input reads as it did. -/
def zedLawsSpec : ChangeSpec := { name := "zedLaws", fn := fun _ => fun
  | [d1, d2, d3] => { results := [.lit (.bool true)], args := [d1, d2, d3] }
  | _ => none }
def zedLawsRow : OpenClaim := { program := "ytckfnbckoclhpaadoor", sum := "9e69fc13152f7b8aed87d77ae7729fca9856387e3e7dc88379899bfcb86e8968", func := "touchstone/touchstonelaw01.ZedLaws", spec := "zedLaws", inPlace := ["internal/bytealg.IndexByteString", "internal/bytealg.IndexString"], named := ["unicode/utf8.first", "unicode/utf8.acceptRanges", "internal/bytealg.MaxLen"], apart := false, laid := [("unicode/utf8.acceptRanges", laid_unicode_utf8_acceptRanges), ("unicode/utf8.first", laid_unicode_utf8_first)] }
def ZedLawsSaid : Prop := zedLawsRow.holds Tryd.pinned (OpenSpec.ofChange zedLawsSpec)

/-- ITS FALSE NEIGHBOUR: 'it returns false'. Refute it at one input. -/
def zedLawsWrong : ChangeSpec := { name := "zedLaws", fn := fun _ => fun
  | [d1, d2, d3] => { results := [.lit (.bool false)], args := [d1, d2, d3] }
  | _ => none }
def ZedLawsWrongFalsely : Prop := zedLawsRow.holds Tryd.pinned (OpenSpec.ofChange zedLawsWrong)

/-- 'touchstonelaw01.ZedGcds': WHATEVER THE INPUT: true; the input reads as it did. -/
def zedGcdsSpec : ChangeSpec := { name := "zedGcds", fn := fun _ => fun
  | [d] => { results := [.lit (.bool true)], args := [d] }
  | _ => none }
def zedGcdsRow : OpenClaim := { program := "ytckfnbckoclhpaadoor", sum := "9e69fc13152f7b8aed87d77ae7729fca9856387e3e7dc88379899bfcb86e8968", func := "touchstone/touchstonelaw01.ZedGcds", spec := "zedGcds", inPlace := ["internal/bytealg.IndexByteString", "internal/bytealg.IndexString"], named := ["unicode/utf8.first", "unicode/utf8.acceptRanges", "internal/bytealg.MaxLen"], apart := false, laid := [("unicode/utf8.acceptRanges", laid_unicode_utf8_acceptRanges), ("unicode/utf8.first", laid_unicode_utf8_first)] }
def ZedGcdsSaid : Prop := zedGcdsRow.holds Tryd.pinned (OpenSpec.ofChange zedGcdsSpec)

/-- ITS FALSE NEIGHBOUR: 'it returns false'. Refute it at one input. -/
def zedGcdsWrong : ChangeSpec := { name := "zedGcds", fn := fun _ => fun
  | [d] => { results := [.lit (.bool false)], args := [d] }
  | _ => none }
def ZedGcdsWrongFalsely : Prop := zedGcdsRow.holds Tryd.pinned (OpenSpec.ofChange zedGcdsWrong)

/-- 'touchstonelaw01.ZedPowers': WHATEVER THE INPUT: true; the input reads as it did. -/
def zedPowersSpec : ChangeSpec := { name := "zedPowers", fn := fun _ => fun
  | [d1, d2, d3] => { results := [.lit (.bool true)], args := [d1, d2, d3] }
  | _ => none }
def zedPowersRow : OpenClaim := { program := "ytckfnbckoclhpaadoor", sum := "9e69fc13152f7b8aed87d77ae7729fca9856387e3e7dc88379899bfcb86e8968", func := "touchstone/touchstonelaw01.ZedPowers", spec := "zedPowers", inPlace := ["internal/bytealg.IndexByteString", "internal/bytealg.IndexString"], named := ["unicode/utf8.first", "unicode/utf8.acceptRanges", "internal/bytealg.MaxLen"], apart := false, laid := [("unicode/utf8.acceptRanges", laid_unicode_utf8_acceptRanges), ("unicode/utf8.first", laid_unicode_utf8_first)] }
def ZedPowersSaid : Prop := zedPowersRow.holds Tryd.pinned (OpenSpec.ofChange zedPowersSpec)

/-- ITS FALSE NEIGHBOUR: 'it returns false'. Refute it at one input. -/
def zedPowersWrong : ChangeSpec := { name := "zedPowers", fn := fun _ => fun
  | [d1, d2, d3] => { results := [.lit (.bool false)], args := [d1, d2, d3] }
  | _ => none }
def ZedPowersWrongFalsely : Prop := zedPowersRow.holds Tryd.pinned (OpenSpec.ofChange zedPowersWrong)

/- THE SECOND FORM. 'bulk': how many values and letters a reading holds, each counted each time it is reached (what is shared counts as often as it is met; a slice's spare places count too). A statement '..UptoSaid' is the law's where the arguments, and the package variables that the reading takes, are together of bulk at most 1048576: NARROWER than '..Said'. Prove '..Said' where nothing that the law and all that it calls make is longer than what came in: it says more and counts as full. Else prove '..UptoSaid'. A law counts once. -/
mutual
def uptoBulk {H : Type} : DataW H → Nat
  | .lit (.string bytes) => bytes.length + 1
  | .lit _ => 1
  | .nil => 1
  | .ptr d => uptoBulk d + 1
  | .slice elems spare => uptoBulkAll elems + uptoBulkAll spare + 1
  | .agg parts => uptoBulkAll parts + 1
  | .iface _ d => uptoBulk d + 1
  | .map entries => uptoBulkEntries entries + 1
  | .held _ => 1
def uptoBulkAll {H : Type} : List (DataW H) → Nat
  | [] => 0
  | d :: r => uptoBulk d + uptoBulkAll r
def uptoBulkEntries {H : Type} : List (Lit × DataW H) → Nat
  | [] => 0
  | x :: r => uptoBulkEntry x + uptoBulkEntries r
def uptoBulkEntry {H : Type} : Lit × DataW H → Nat
  | (.string bytes, d) => bytes.length + uptoBulk d + 1
  | (_, d) => uptoBulk d + 1
 end
def uptoSmall : (H : Type) → List (DataW H) → Bool := fun _ ds => decide (uptoBulkAll ds ≤ 1048576)
def OpenSpec.upto (s : _root_.Go.ChangeSpec) : _root_.Go.OpenSpec := { _root_.Go.OpenSpec.ofChange s with cond := some uptoSmall }

/-- 'touchstonelaw01.ZedSmalls', WHERE WHAT IT READS IS OF BULK AT MOST 1048576: true; the input reads as it did. -/
def zedSmallsUptoRow : OpenClaim := { program := "ytckfnbckoclhpaadoor", sum := "9e69fc13152f7b8aed87d77ae7729fca9856387e3e7dc88379899bfcb86e8968", func := "touchstone/touchstonelaw01.ZedSmalls", spec := "zedSmalls", inPlace := ["internal/bytealg.IndexByteString", "internal/bytealg.IndexString"], named := ["unicode/utf8.first", "unicode/utf8.acceptRanges", "internal/bytealg.MaxLen"], apart := false, laid := [("unicode/utf8.acceptRanges", laid_unicode_utf8_acceptRanges), ("unicode/utf8.first", laid_unicode_utf8_first)], narrowed := true }
def ZedSmallsUptoSaid : Prop := zedSmallsUptoRow.holds Tryd.pinned (OpenSpec.upto zedSmallsSpec)

/-- 'touchstonelaw01.ZedParses', WHERE WHAT IT READS IS OF BULK AT MOST 1048576: true; the input reads as it did. -/
def zedParsesUptoRow : OpenClaim := { program := "ytckfnbckoclhpaadoor", sum := "9e69fc13152f7b8aed87d77ae7729fca9856387e3e7dc88379899bfcb86e8968", func := "touchstone/touchstonelaw01.ZedParses", spec := "zedParses", inPlace := ["internal/bytealg.IndexByteString", "internal/bytealg.IndexString"], named := ["unicode/utf8.first", "unicode/utf8.acceptRanges", "internal/bytealg.MaxLen"], apart := false, laid := [("unicode/utf8.acceptRanges", laid_unicode_utf8_acceptRanges), ("unicode/utf8.first", laid_unicode_utf8_first)], narrowed := true }
def ZedParsesUptoSaid : Prop := zedParsesUptoRow.holds Tryd.pinned (OpenSpec.upto zedParsesSpec)

/-- 'touchstonelaw01.ZedDivides', WHERE WHAT IT READS IS OF BULK AT MOST 1048576: true; the input reads as it did. -/
def zedDividesUptoRow : OpenClaim := { program := "ytckfnbckoclhpaadoor", sum := "9e69fc13152f7b8aed87d77ae7729fca9856387e3e7dc88379899bfcb86e8968", func := "touchstone/touchstonelaw01.ZedDivides", spec := "zedDivides", inPlace := ["internal/bytealg.IndexByteString", "internal/bytealg.IndexString"], named := ["unicode/utf8.first", "unicode/utf8.acceptRanges", "internal/bytealg.MaxLen"], apart := false, laid := [("unicode/utf8.acceptRanges", laid_unicode_utf8_acceptRanges), ("unicode/utf8.first", laid_unicode_utf8_first)], narrowed := true }
def ZedDividesUptoSaid : Prop := zedDividesUptoRow.holds Tryd.pinned (OpenSpec.upto zedDividesSpec)

/-- 'touchstonelaw01.ZedSums', WHERE WHAT IT READS IS OF BULK AT MOST 1048576: true; the input reads as it did. -/
def zedSumsUptoRow : OpenClaim := { program := "ytckfnbckoclhpaadoor", sum := "9e69fc13152f7b8aed87d77ae7729fca9856387e3e7dc88379899bfcb86e8968", func := "touchstone/touchstonelaw01.ZedSums", spec := "zedSums", inPlace := ["internal/bytealg.IndexByteString", "internal/bytealg.IndexString"], named := ["unicode/utf8.first", "unicode/utf8.acceptRanges", "internal/bytealg.MaxLen"], apart := false, laid := [("unicode/utf8.acceptRanges", laid_unicode_utf8_acceptRanges), ("unicode/utf8.first", laid_unicode_utf8_first)], narrowed := true }
def ZedSumsUptoSaid : Prop := zedSumsUptoRow.holds Tryd.pinned (OpenSpec.upto zedSumsSpec)

/-- 'touchstonelaw01.ZedProducts', WHERE WHAT IT READS IS OF BULK AT MOST 1048576: true; the input reads as it did. -/
def zedProductsUptoRow : OpenClaim := { program := "ytckfnbckoclhpaadoor", sum := "9e69fc13152f7b8aed87d77ae7729fca9856387e3e7dc88379899bfcb86e8968", func := "touchstone/touchstonelaw01.ZedProducts", spec := "zedProducts", inPlace := ["internal/bytealg.IndexByteString", "internal/bytealg.IndexString"], named := ["unicode/utf8.first", "unicode/utf8.acceptRanges", "internal/bytealg.MaxLen"], apart := false, laid := [("unicode/utf8.acceptRanges", laid_unicode_utf8_acceptRanges), ("unicode/utf8.first", laid_unicode_utf8_first)], narrowed := true }
def ZedProductsUptoSaid : Prop := zedProductsUptoRow.holds Tryd.pinned (OpenSpec.upto zedProductsSpec)

/-- 'touchstonelaw01.ZedLaws', WHERE WHAT IT READS IS OF BULK AT MOST 1048576: true; the input reads as it did. -/
def zedLawsUptoRow : OpenClaim := { program := "ytckfnbckoclhpaadoor", sum := "9e69fc13152f7b8aed87d77ae7729fca9856387e3e7dc88379899bfcb86e8968", func := "touchstone/touchstonelaw01.ZedLaws", spec := "zedLaws", inPlace := ["internal/bytealg.IndexByteString", "internal/bytealg.IndexString"], named := ["unicode/utf8.first", "unicode/utf8.acceptRanges", "internal/bytealg.MaxLen"], apart := false, laid := [("unicode/utf8.acceptRanges", laid_unicode_utf8_acceptRanges), ("unicode/utf8.first", laid_unicode_utf8_first)], narrowed := true }
def ZedLawsUptoSaid : Prop := zedLawsUptoRow.holds Tryd.pinned (OpenSpec.upto zedLawsSpec)

/-- 'touchstonelaw01.ZedGcds', WHERE WHAT IT READS IS OF BULK AT MOST 1048576: true; the input reads as it did. -/
def zedGcdsUptoRow : OpenClaim := { program := "ytckfnbckoclhpaadoor", sum := "9e69fc13152f7b8aed87d77ae7729fca9856387e3e7dc88379899bfcb86e8968", func := "touchstone/touchstonelaw01.ZedGcds", spec := "zedGcds", inPlace := ["internal/bytealg.IndexByteString", "internal/bytealg.IndexString"], named := ["unicode/utf8.first", "unicode/utf8.acceptRanges", "internal/bytealg.MaxLen"], apart := false, laid := [("unicode/utf8.acceptRanges", laid_unicode_utf8_acceptRanges), ("unicode/utf8.first", laid_unicode_utf8_first)], narrowed := true }
def ZedGcdsUptoSaid : Prop := zedGcdsUptoRow.holds Tryd.pinned (OpenSpec.upto zedGcdsSpec)

/-- 'touchstonelaw01.ZedPowers', WHERE WHAT IT READS IS OF BULK AT MOST 1048576: true; the input reads as it did. -/
def zedPowersUptoRow : OpenClaim := { program := "ytckfnbckoclhpaadoor", sum := "9e69fc13152f7b8aed87d77ae7729fca9856387e3e7dc88379899bfcb86e8968", func := "touchstone/touchstonelaw01.ZedPowers", spec := "zedPowers", inPlace := ["internal/bytealg.IndexByteString", "internal/bytealg.IndexString"], named := ["unicode/utf8.first", "unicode/utf8.acceptRanges", "internal/bytealg.MaxLen"], apart := false, laid := [("unicode/utf8.acceptRanges", laid_unicode_utf8_acceptRanges), ("unicode/utf8.first", laid_unicode_utf8_first)], narrowed := true }
def ZedPowersUptoSaid : Prop := zedPowersUptoRow.holds Tryd.pinned (OpenSpec.upto zedPowersSpec)

end Rows
end Go.Proofs.YtckfnbckoclhpaaDoor
