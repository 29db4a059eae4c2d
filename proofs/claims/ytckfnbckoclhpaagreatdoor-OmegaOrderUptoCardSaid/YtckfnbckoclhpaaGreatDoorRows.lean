/-
  NARROWER THAN 'FOR EVERY INPUT', by the rows' own cells (each row's printed sentence says how): RowsOrder: laid · RowsSplits: laid · RowsPuts: laid · OmegaOrder: laid · OmegaMeets: laid.
  DERIVED. THE GIVEN ROWS OF THIS SEAT. 5 by the template 'for every input the law returns true; each argument reads behind the call as it read before'; 0 by the template 'total and deterministic' (their statements: YtckfnbckoclhpaaGreatDoorTotals.lean).
  GIVEN WITH THE SEED: the statements are not yours to turn. If you find one false, say at which input.
  Laid BY PROGRAM, IN A SANDBOX (cutbox-rows.mjs): the forced cells as the released guide's own fill.sh prints them over the translation c1fbd7661483cd94… (all of the seat's roots in one cut). By AI agents, Wed Nov 11 2026. No macro, syntax, notation, axiom, sorry.
-/
import Derived.Test.YtckfnbckoclhpaaGreatDoorChecked
import GoSem.PinnedTables
import GoSem.Claim
import GoSem.ClaimJoined
import GoSem.ClaimMapViews
import Derived.JoinedTies
import Derived.KernelRfl
namespace Go.Proofs.YtckfnbckoclhpaaGreatDoor
/- THE CELL 'sum', in the pinned program and in every row, IS THE sha256 OF THE DUMP (.gsa) THAT YtckfnbckoclhpaaGreatDoorProg.lean LOADS. Nothing in Lean hashes anything: it is a label: what it is worth is what the hold of that sum in a sandbox is worth. -/
noncomputable def Tryz.pinned : Pinned := { name := "ytckfnbckoclhpaagreatdoor", sum := "c1fbd7661483cd94e4dbf5cd83c3bb520598b1b4be188fcaaea47ed041499ab8", checked := Tryz.checked }
namespace Rows
def none {H : Type} : Left H := { results := [], args := [] }

/- WHAT THE LISTED PACKAGE-LEVEL VARIABLES READ AS WHEN THE CALL BEGINS. Each datum BY PROGRAM (the guide's laid-datum.mjs) off the statement by which the dump's own 'gosem.cut.vars' lays the variable. In a bare row this is a premise. The card (YtckfnbckoclhpaaGreatDoorCards.lean) ties it to the program's text. -/
def laid_unicode_utf8_acceptRanges {H : Type} : DataW H := .agg [.agg [.lit (.int .u8 128), .lit (.int .u8 191)], .agg [.lit (.int .u8 160), .lit (.int .u8 191)], .agg [.lit (.int .u8 128), .lit (.int .u8 159)], .agg [.lit (.int .u8 144), .lit (.int .u8 191)], .agg [.lit (.int .u8 128), .lit (.int .u8 143)], .agg [.lit (.int .u8 0), .lit (.int .u8 0)], .agg [.lit (.int .u8 0), .lit (.int .u8 0)], .agg [.lit (.int .u8 0), .lit (.int .u8 0)], .agg [.lit (.int .u8 0), .lit (.int .u8 0)], .agg [.lit (.int .u8 0), .lit (.int .u8 0)], .agg [.lit (.int .u8 0), .lit (.int .u8 0)], .agg [.lit (.int .u8 0), .lit (.int .u8 0)], .agg [.lit (.int .u8 0), .lit (.int .u8 0)], .agg [.lit (.int .u8 0), .lit (.int .u8 0)], .agg [.lit (.int .u8 0), .lit (.int .u8 0)], .agg [.lit (.int .u8 0), .lit (.int .u8 0)]]
/-- One of Go's own tables, pinned by name: the form's constant. -/
def laid_unicode_utf8_first : DataW Unit := Go.Pinned.utf8First

/-- 'touchstonelaw16.RowsOrder': WHATEVER THE INPUT: true; the input reads as it did. -/
def rowsOrderSpec : ChangeSpec := { name := "rowsOrder", fn := fun _ => fun
  | [d1, d2] => { results := [.lit (.bool true)], args := [d1, d2] }
  | _ => none }
def rowsOrderRow : OpenClaim := { program := "ytckfnbckoclhpaagreatdoor", sum := "c1fbd7661483cd94e4dbf5cd83c3bb520598b1b4be188fcaaea47ed041499ab8", func := "touchstone/touchstonelaw16.RowsOrder", spec := "rowsOrder", inPlace := ["slices.overlaps[touchstone/bag.Pair[string, touchstone/zed.Int]]", "internal/bytealg.IndexByteString", "internal/bytealg.IndexString", "internal/abi.NoEscape", "slices.overlaps[touchstone/bag.Pair[string, *touchstone/rows.pair]]", "internal/bytealg.abigen_runtime_cmpstring"], unfollowed := true, recurses := true, named := ["unicode/utf8.first", "unicode/utf8.acceptRanges", "internal/bytealg.MaxLen"], apart := false, laid := [("unicode/utf8.acceptRanges", laid_unicode_utf8_acceptRanges), ("unicode/utf8.first", laid_unicode_utf8_first)] }
def RowsOrderSaid : Prop := rowsOrderRow.holds Tryz.pinned (OpenSpec.ofChange rowsOrderSpec)

/-- ITS FALSE NEIGHBOUR: 'it returns false'. Refute it at one input. -/
def rowsOrderWrong : ChangeSpec := { name := "rowsOrder", fn := fun _ => fun
  | [d1, d2] => { results := [.lit (.bool false)], args := [d1, d2] }
  | _ => none }
def RowsOrderWrongFalsely : Prop := rowsOrderRow.holds Tryz.pinned (OpenSpec.ofChange rowsOrderWrong)

/-- 'touchstonelaw16.RowsSplits': WHATEVER THE INPUT: true; the input reads as it did. -/
def rowsSplitsSpec : ChangeSpec := { name := "rowsSplits", fn := fun _ => fun
  | [d1, d2] => { results := [.lit (.bool true)], args := [d1, d2] }
  | _ => none }
def rowsSplitsRow : OpenClaim := { program := "ytckfnbckoclhpaagreatdoor", sum := "c1fbd7661483cd94e4dbf5cd83c3bb520598b1b4be188fcaaea47ed041499ab8", func := "touchstone/touchstonelaw16.RowsSplits", spec := "rowsSplits", inPlace := ["slices.overlaps[touchstone/bag.Pair[string, touchstone/zed.Int]]", "internal/bytealg.IndexByteString", "internal/bytealg.IndexString", "internal/abi.NoEscape", "slices.overlaps[touchstone/bag.Pair[string, *touchstone/rows.pair]]", "internal/bytealg.abigen_runtime_cmpstring"], unfollowed := true, recurses := true, named := ["unicode/utf8.first", "unicode/utf8.acceptRanges", "internal/bytealg.MaxLen"], apart := false, laid := [("unicode/utf8.acceptRanges", laid_unicode_utf8_acceptRanges), ("unicode/utf8.first", laid_unicode_utf8_first)] }
def RowsSplitsSaid : Prop := rowsSplitsRow.holds Tryz.pinned (OpenSpec.ofChange rowsSplitsSpec)

/-- ITS FALSE NEIGHBOUR: 'it returns false'. Refute it at one input. -/
def rowsSplitsWrong : ChangeSpec := { name := "rowsSplits", fn := fun _ => fun
  | [d1, d2] => { results := [.lit (.bool false)], args := [d1, d2] }
  | _ => none }
def RowsSplitsWrongFalsely : Prop := rowsSplitsRow.holds Tryz.pinned (OpenSpec.ofChange rowsSplitsWrong)

/-- 'touchstonelaw16.RowsPuts': WHATEVER THE INPUT: true; the input reads as it did. -/
def rowsPutsSpec : ChangeSpec := { name := "rowsPuts", fn := fun _ => fun
  | [d1, d2, d3, d4] => { results := [.lit (.bool true)], args := [d1, d2, d3, d4] }
  | _ => none }
def rowsPutsRow : OpenClaim := { program := "ytckfnbckoclhpaagreatdoor", sum := "c1fbd7661483cd94e4dbf5cd83c3bb520598b1b4be188fcaaea47ed041499ab8", func := "touchstone/touchstonelaw16.RowsPuts", spec := "rowsPuts", inPlace := ["slices.overlaps[touchstone/bag.Pair[string, touchstone/zed.Int]]", "internal/bytealg.IndexByteString", "internal/bytealg.IndexString", "internal/abi.NoEscape", "slices.overlaps[touchstone/bag.Pair[string, *touchstone/rows.pair]]", "internal/bytealg.abigen_runtime_cmpstring"], unfollowed := true, recurses := true, named := ["unicode/utf8.first", "unicode/utf8.acceptRanges", "internal/bytealg.MaxLen"], apart := false, laid := [("unicode/utf8.acceptRanges", laid_unicode_utf8_acceptRanges), ("unicode/utf8.first", laid_unicode_utf8_first)] }
def RowsPutsSaid : Prop := rowsPutsRow.holds Tryz.pinned (OpenSpec.ofChange rowsPutsSpec)

/-- ITS FALSE NEIGHBOUR: 'it returns false'. Refute it at one input. -/
def rowsPutsWrong : ChangeSpec := { name := "rowsPuts", fn := fun _ => fun
  | [d1, d2, d3, d4] => { results := [.lit (.bool false)], args := [d1, d2, d3, d4] }
  | _ => none }
def RowsPutsWrongFalsely : Prop := rowsPutsRow.holds Tryz.pinned (OpenSpec.ofChange rowsPutsWrong)

/-- 'touchstonelaw17.OmegaOrder': WHATEVER THE INPUT: true; the input reads as it did. -/
def omegaOrderSpec : ChangeSpec := { name := "omegaOrder", fn := fun _ => fun
  | [d1, d2] => { results := [.lit (.bool true)], args := [d1, d2] }
  | _ => none }
def omegaOrderRow : OpenClaim := { program := "ytckfnbckoclhpaagreatdoor", sum := "c1fbd7661483cd94e4dbf5cd83c3bb520598b1b4be188fcaaea47ed041499ab8", func := "touchstone/touchstonelaw17.OmegaOrder", spec := "omegaOrder", inPlace := ["slices.overlaps[touchstone/bag.Pair[string, touchstone/zed.Int]]", "internal/bytealg.IndexByteString", "internal/bytealg.IndexString", "internal/abi.NoEscape", "slices.overlaps[touchstone/bag.Pair[string, *touchstone/rows.pair]]", "internal/bytealg.abigen_runtime_cmpstring", "slices.overlaps[touchstone/bag.Pair[string, bool]]"], unfollowed := true, recurses := true, named := ["unicode/utf8.first", "unicode/utf8.acceptRanges", "internal/bytealg.MaxLen"], apart := false, laid := [("unicode/utf8.acceptRanges", laid_unicode_utf8_acceptRanges), ("unicode/utf8.first", laid_unicode_utf8_first)] }
def OmegaOrderSaid : Prop := omegaOrderRow.holds Tryz.pinned (OpenSpec.ofChange omegaOrderSpec)

/-- ITS FALSE NEIGHBOUR: 'it returns false'. Refute it at one input. -/
def omegaOrderWrong : ChangeSpec := { name := "omegaOrder", fn := fun _ => fun
  | [d1, d2] => { results := [.lit (.bool false)], args := [d1, d2] }
  | _ => none }
def OmegaOrderWrongFalsely : Prop := omegaOrderRow.holds Tryz.pinned (OpenSpec.ofChange omegaOrderWrong)

/-- 'touchstonelaw17.OmegaMeets': WHATEVER THE INPUT: true; the input reads as it did. -/
def omegaMeetsSpec : ChangeSpec := { name := "omegaMeets", fn := fun _ => fun
  | [d1, d2] => { results := [.lit (.bool true)], args := [d1, d2] }
  | _ => none }
def omegaMeetsRow : OpenClaim := { program := "ytckfnbckoclhpaagreatdoor", sum := "c1fbd7661483cd94e4dbf5cd83c3bb520598b1b4be188fcaaea47ed041499ab8", func := "touchstone/touchstonelaw17.OmegaMeets", spec := "omegaMeets", inPlace := ["slices.overlaps[touchstone/bag.Pair[string, touchstone/zed.Int]]", "internal/bytealg.IndexByteString", "internal/bytealg.IndexString", "internal/abi.NoEscape", "slices.overlaps[touchstone/bag.Pair[string, *touchstone/rows.pair]]", "internal/bytealg.abigen_runtime_cmpstring", "slices.overlaps[touchstone/bag.Pair[string, bool]]"], unfollowed := true, recurses := true, named := ["unicode/utf8.first", "unicode/utf8.acceptRanges", "internal/bytealg.MaxLen"], apart := false, laid := [("unicode/utf8.acceptRanges", laid_unicode_utf8_acceptRanges), ("unicode/utf8.first", laid_unicode_utf8_first)] }
def OmegaMeetsSaid : Prop := omegaMeetsRow.holds Tryz.pinned (OpenSpec.ofChange omegaMeetsSpec)

/-- ITS FALSE NEIGHBOUR: 'it returns false'. Refute it at one input. -/
def omegaMeetsWrong : ChangeSpec := { name := "omegaMeets", fn := fun _ => fun
  | [d1, d2] => { results := [.lit (.bool false)], args := [d1, d2] }
  | _ => none }
def OmegaMeetsWrongFalsely : Prop := omegaMeetsRow.holds Tryz.pinned (OpenSpec.ofChange omegaMeetsWrong)

/- THE SECOND FORM. 'bulk': how many values and letters a reading holds, each counted each time it is reached (what is shared counts as often as it is met; a slice's spare places count too). A statement '..UptoSaid' is the law's where the arguments, and the package variables that the reading takes, are together of bulk at most 1048576: NARROWER than '..Said'. Prove '..Said' where nothing that the law and all that it calls make is longer than what came in: it says more and counts as full. Else prove '..UptoSaid'. A law counts once. -/
mutual
def uptoBulk {H : Type} : DataW H → Nat
  | .lit (.string bytes) => bytes.length + 1
  | .lit _ => 1
  | .nil => 1
  | .ptr d => uptoBulk d + 1
  | .slice elems spare => uptoBulkAll elems + uptoBulkAll spare + 1
  | .agg parts => uptoBulkAll parts + 1
  | .iface _ d => uptoBulk d + 1
  | .map entries => uptoBulkEntries entries + 1
  | .held _ => 1
def uptoBulkAll {H : Type} : List (DataW H) → Nat
  | [] => 0
  | d :: r => uptoBulk d + uptoBulkAll r
def uptoBulkEntries {H : Type} : List (Lit × DataW H) → Nat
  | [] => 0
  | x :: r => uptoBulkEntry x + uptoBulkEntries r
def uptoBulkEntry {H : Type} : Lit × DataW H → Nat
  | (.string bytes, d) => bytes.length + uptoBulk d + 1
  | (_, d) => uptoBulk d + 1
 end
def uptoSmall : (H : Type) → List (DataW H) → Bool := fun _ ds => decide (uptoBulkAll ds ≤ 1048576)
def OpenSpec.upto (s : _root_.Go.ChangeSpec) : _root_.Go.OpenSpec := { _root_.Go.OpenSpec.ofChange s with cond := some uptoSmall }

/-- 'touchstonelaw16.RowsOrder', WHERE WHAT IT READS IS OF BULK AT MOST 1048576: true; the input reads as it did. -/
def rowsOrderUptoRow : OpenClaim := { program := "ytckfnbckoclhpaagreatdoor", sum := "c1fbd7661483cd94e4dbf5cd83c3bb520598b1b4be188fcaaea47ed041499ab8", func := "touchstone/touchstonelaw16.RowsOrder", spec := "rowsOrder", inPlace := ["slices.overlaps[touchstone/bag.Pair[string, touchstone/zed.Int]]", "internal/bytealg.IndexByteString", "internal/bytealg.IndexString", "internal/abi.NoEscape", "slices.overlaps[touchstone/bag.Pair[string, *touchstone/rows.pair]]", "internal/bytealg.abigen_runtime_cmpstring"], unfollowed := true, recurses := true, named := ["unicode/utf8.first", "unicode/utf8.acceptRanges", "internal/bytealg.MaxLen"], apart := false, laid := [("unicode/utf8.acceptRanges", laid_unicode_utf8_acceptRanges), ("unicode/utf8.first", laid_unicode_utf8_first)], narrowed := true }
def RowsOrderUptoSaid : Prop := rowsOrderUptoRow.holds Tryz.pinned (OpenSpec.upto rowsOrderSpec)

/-- 'touchstonelaw16.RowsSplits', WHERE WHAT IT READS IS OF BULK AT MOST 1048576: true; the input reads as it did. -/
def rowsSplitsUptoRow : OpenClaim := { program := "ytckfnbckoclhpaagreatdoor", sum := "c1fbd7661483cd94e4dbf5cd83c3bb520598b1b4be188fcaaea47ed041499ab8", func := "touchstone/touchstonelaw16.RowsSplits", spec := "rowsSplits", inPlace := ["slices.overlaps[touchstone/bag.Pair[string, touchstone/zed.Int]]", "internal/bytealg.IndexByteString", "internal/bytealg.IndexString", "internal/abi.NoEscape", "slices.overlaps[touchstone/bag.Pair[string, *touchstone/rows.pair]]", "internal/bytealg.abigen_runtime_cmpstring"], unfollowed := true, recurses := true, named := ["unicode/utf8.first", "unicode/utf8.acceptRanges", "internal/bytealg.MaxLen"], apart := false, laid := [("unicode/utf8.acceptRanges", laid_unicode_utf8_acceptRanges), ("unicode/utf8.first", laid_unicode_utf8_first)], narrowed := true }
def RowsSplitsUptoSaid : Prop := rowsSplitsUptoRow.holds Tryz.pinned (OpenSpec.upto rowsSplitsSpec)

/-- 'touchstonelaw16.RowsPuts', WHERE WHAT IT READS IS OF BULK AT MOST 1048576: true; the input reads as it did. -/
def rowsPutsUptoRow : OpenClaim := { program := "ytckfnbckoclhpaagreatdoor", sum := "c1fbd7661483cd94e4dbf5cd83c3bb520598b1b4be188fcaaea47ed041499ab8", func := "touchstone/touchstonelaw16.RowsPuts", spec := "rowsPuts", inPlace := ["slices.overlaps[touchstone/bag.Pair[string, touchstone/zed.Int]]", "internal/bytealg.IndexByteString", "internal/bytealg.IndexString", "internal/abi.NoEscape", "slices.overlaps[touchstone/bag.Pair[string, *touchstone/rows.pair]]", "internal/bytealg.abigen_runtime_cmpstring"], unfollowed := true, recurses := true, named := ["unicode/utf8.first", "unicode/utf8.acceptRanges", "internal/bytealg.MaxLen"], apart := false, laid := [("unicode/utf8.acceptRanges", laid_unicode_utf8_acceptRanges), ("unicode/utf8.first", laid_unicode_utf8_first)], narrowed := true }
def RowsPutsUptoSaid : Prop := rowsPutsUptoRow.holds Tryz.pinned (OpenSpec.upto rowsPutsSpec)

/-- 'touchstonelaw17.OmegaOrder', WHERE WHAT IT READS IS OF BULK AT MOST 1048576: true; the input reads as it did. -/
def omegaOrderUptoRow : OpenClaim := { program := "ytckfnbckoclhpaagreatdoor", sum := "c1fbd7661483cd94e4dbf5cd83c3bb520598b1b4be188fcaaea47ed041499ab8", func := "touchstone/touchstonelaw17.OmegaOrder", spec := "omegaOrder", inPlace := ["slices.overlaps[touchstone/bag.Pair[string, touchstone/zed.Int]]", "internal/bytealg.IndexByteString", "internal/bytealg.IndexString", "internal/abi.NoEscape", "slices.overlaps[touchstone/bag.Pair[string, *touchstone/rows.pair]]", "internal/bytealg.abigen_runtime_cmpstring", "slices.overlaps[touchstone/bag.Pair[string, bool]]"], unfollowed := true, recurses := true, named := ["unicode/utf8.first", "unicode/utf8.acceptRanges", "internal/bytealg.MaxLen"], apart := false, laid := [("unicode/utf8.acceptRanges", laid_unicode_utf8_acceptRanges), ("unicode/utf8.first", laid_unicode_utf8_first)], narrowed := true }
def OmegaOrderUptoSaid : Prop := omegaOrderUptoRow.holds Tryz.pinned (OpenSpec.upto omegaOrderSpec)

/-- 'touchstonelaw17.OmegaMeets', WHERE WHAT IT READS IS OF BULK AT MOST 1048576: true; the input reads as it did. -/
def omegaMeetsUptoRow : OpenClaim := { program := "ytckfnbckoclhpaagreatdoor", sum := "c1fbd7661483cd94e4dbf5cd83c3bb520598b1b4be188fcaaea47ed041499ab8", func := "touchstone/touchstonelaw17.OmegaMeets", spec := "omegaMeets", inPlace := ["slices.overlaps[touchstone/bag.Pair[string, touchstone/zed.Int]]", "internal/bytealg.IndexByteString", "internal/bytealg.IndexString", "internal/abi.NoEscape", "slices.overlaps[touchstone/bag.Pair[string, *touchstone/rows.pair]]", "internal/bytealg.abigen_runtime_cmpstring", "slices.overlaps[touchstone/bag.Pair[string, bool]]"], unfollowed := true, recurses := true, named := ["unicode/utf8.first", "unicode/utf8.acceptRanges", "internal/bytealg.MaxLen"], apart := false, laid := [("unicode/utf8.acceptRanges", laid_unicode_utf8_acceptRanges), ("unicode/utf8.first", laid_unicode_utf8_first)], narrowed := true }
def OmegaMeetsUptoSaid : Prop := omegaMeetsUptoRow.holds Tryz.pinned (OpenSpec.upto omegaMeetsSpec)

end Rows
end Go.Proofs.YtckfnbckoclhpaaGreatDoor
