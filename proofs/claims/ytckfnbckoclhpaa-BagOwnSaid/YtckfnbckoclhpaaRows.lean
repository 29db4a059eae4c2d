/-
  No cell of these rows narrows 'for every input' (looked for: loops, veiled, ifaces, maps, wideKeys, modest, calm, conditions, laid).
  DERIVED. THE GIVEN ROWS OF THIS SEAT. 6 by the template 'for every input the law returns true; each argument reads behind the call as it read before'; 0 by the template 'total and deterministic' (their statements: YtckfnbckoclhpaaTotals.lean).
  GIVEN WITH THE SEED: the statements are not yours to turn. If you find one false, say at which input.
  Laid BY PROGRAM, IN A SANDBOX (cutbox-rows.mjs): the forced cells as the released guide's own fill.sh prints them over the translation 2fdd3d9abcadf41c… (all of the seat's roots in one cut). By AI agents, Wed Nov 11 2026. No macro, syntax, notation, axiom, sorry.
-/
import Derived.Test.YtckfnbckoclhpaaChecked
import GoSem.Claim
import GoSem.ClaimJoined
import GoSem.ClaimMapViews
import Derived.JoinedTies
import Derived.KernelRfl
namespace Go.Proofs.Ytckfnbckoclhpaa
/- THE CELL 'sum', in the pinned program and in every row, IS THE sha256 OF THE DUMP (.gsa) THAT YtckfnbckoclhpaaProg.lean LOADS. Nothing in Lean hashes anything: it is a label: what it is worth is what the hold of that sum in a sandbox is worth. -/
noncomputable def Try.pinned : Pinned := { name := "ytckfnbckoclhpaa", sum := "2fdd3d9abcadf41c584455e402208cad7648957d4e234157b1519a71f2f4ac5b", checked := Try.checked }
namespace Rows
def none {H : Type} : Left H := { results := [], args := [] }

/-- 'touchstonelaw02.BagClasses': WHATEVER THE INPUT: true; the input reads as it did. -/
def bagClassesSpec : ChangeSpec := { name := "bagClasses", fn := fun _ => fun
  | [d1, d2] => { results := [.lit (.bool true)], args := [d1, d2] }
  | _ => none }
def bagClassesRow : OpenClaim := { program := "ytckfnbckoclhpaa", sum := "2fdd3d9abcadf41c584455e402208cad7648957d4e234157b1519a71f2f4ac5b", func := "touchstone/touchstonelaw02.BagClasses", spec := "bagClasses", recurses := true, apart := false }
def BagClassesSaid : Prop := bagClassesRow.holds Try.pinned (OpenSpec.ofChange bagClassesSpec)

/-- ITS FALSE NEIGHBOUR: 'it returns false'. Refute it at one input. -/
def bagClassesWrong : ChangeSpec := { name := "bagClasses", fn := fun _ => fun
  | [d1, d2] => { results := [.lit (.bool false)], args := [d1, d2] }
  | _ => none }
def BagClassesWrongFalsely : Prop := bagClassesRow.holds Try.pinned (OpenSpec.ofChange bagClassesWrong)

/-- 'touchstonelaw02.BagWords': WHATEVER THE INPUT: true; the input reads as it did. -/
def bagWordsSpec : ChangeSpec := { name := "bagWords", fn := fun _ => fun
  | [d1, d2] => { results := [.lit (.bool true)], args := [d1, d2] }
  | _ => none }
def bagWordsRow : OpenClaim := { program := "ytckfnbckoclhpaa", sum := "2fdd3d9abcadf41c584455e402208cad7648957d4e234157b1519a71f2f4ac5b", func := "touchstone/touchstonelaw02.BagWords", spec := "bagWords", recurses := true, apart := false }
def BagWordsSaid : Prop := bagWordsRow.holds Try.pinned (OpenSpec.ofChange bagWordsSpec)

/-- ITS FALSE NEIGHBOUR: 'it returns false'. Refute it at one input. -/
def bagWordsWrong : ChangeSpec := { name := "bagWords", fn := fun _ => fun
  | [d1, d2] => { results := [.lit (.bool false)], args := [d1, d2] }
  | _ => none }
def BagWordsWrongFalsely : Prop := bagWordsRow.holds Try.pinned (OpenSpec.ofChange bagWordsWrong)

/-- 'touchstonelaw02.BagRows': WHATEVER THE INPUT: true; the input reads as it did. -/
def bagRowsSpec : ChangeSpec := { name := "bagRows", fn := fun _ => fun
  | [d1, d2] => { results := [.lit (.bool true)], args := [d1, d2] }
  | _ => none }
def bagRowsRow : OpenClaim := { program := "ytckfnbckoclhpaa", sum := "2fdd3d9abcadf41c584455e402208cad7648957d4e234157b1519a71f2f4ac5b", func := "touchstone/touchstonelaw02.BagRows", spec := "bagRows", recurses := true, apart := false }
def BagRowsSaid : Prop := bagRowsRow.holds Try.pinned (OpenSpec.ofChange bagRowsSpec)

/-- ITS FALSE NEIGHBOUR: 'it returns false'. Refute it at one input. -/
def bagRowsWrong : ChangeSpec := { name := "bagRows", fn := fun _ => fun
  | [d1, d2] => { results := [.lit (.bool false)], args := [d1, d2] }
  | _ => none }
def BagRowsWrongFalsely : Prop := bagRowsRow.holds Try.pinned (OpenSpec.ofChange bagRowsWrong)

/-- 'touchstonelaw02.BagSets': WHATEVER THE INPUT: true; the input reads as it did. -/
def bagSetsSpec : ChangeSpec := { name := "bagSets", fn := fun _ => fun
  | [d1, d2, d3] => { results := [.lit (.bool true)], args := [d1, d2, d3] }
  | _ => none }
def bagSetsRow : OpenClaim := { program := "ytckfnbckoclhpaa", sum := "2fdd3d9abcadf41c584455e402208cad7648957d4e234157b1519a71f2f4ac5b", func := "touchstone/touchstonelaw02.BagSets", spec := "bagSets", unfollowed := true, recurses := true, apart := false }
def BagSetsSaid : Prop := bagSetsRow.holds Try.pinned (OpenSpec.ofChange bagSetsSpec)

/-- ITS FALSE NEIGHBOUR: 'it returns false'. Refute it at one input. -/
def bagSetsWrong : ChangeSpec := { name := "bagSets", fn := fun _ => fun
  | [d1, d2, d3] => { results := [.lit (.bool false)], args := [d1, d2, d3] }
  | _ => none }
def BagSetsWrongFalsely : Prop := bagSetsRow.holds Try.pinned (OpenSpec.ofChange bagSetsWrong)

/-- 'touchstonelaw02.BagMaps': WHATEVER THE INPUT: true; the input reads as it did. -/
def bagMapsSpec : ChangeSpec := { name := "bagMaps", fn := fun _ => fun
  | [d] => { results := [.lit (.bool true)], args := [d] }
  | _ => none }
def bagMapsRow : OpenClaim := { program := "ytckfnbckoclhpaa", sum := "2fdd3d9abcadf41c584455e402208cad7648957d4e234157b1519a71f2f4ac5b", func := "touchstone/touchstonelaw02.BagMaps", spec := "bagMaps", inPlace := ["slices.overlaps[touchstone/bag.Pair[int, int]]"], unfollowed := true, recurses := true, apart := false }
def BagMapsSaid : Prop := bagMapsRow.holds Try.pinned (OpenSpec.ofChange bagMapsSpec)

/-- ITS FALSE NEIGHBOUR: 'it returns false'. Refute it at one input. -/
def bagMapsWrong : ChangeSpec := { name := "bagMaps", fn := fun _ => fun
  | [d] => { results := [.lit (.bool false)], args := [d] }
  | _ => none }
def BagMapsWrongFalsely : Prop := bagMapsRow.holds Try.pinned (OpenSpec.ofChange bagMapsWrong)

/-- 'touchstonelaw02.BagOwn': WHATEVER THE INPUT: true; the input reads as it did. -/
def bagOwnSpec : ChangeSpec := { name := "bagOwn", fn := fun _ => fun
  | [d] => { results := [.lit (.bool true)], args := [d] }
  | _ => none }
def bagOwnRow : OpenClaim := { program := "ytckfnbckoclhpaa", sum := "2fdd3d9abcadf41c584455e402208cad7648957d4e234157b1519a71f2f4ac5b", func := "touchstone/touchstonelaw02.BagOwn", spec := "bagOwn", inPlace := ["slices.overlaps[touchstone/bag.Pair[int, int]]"], unfollowed := true, recurses := true, apart := false }
def BagOwnSaid : Prop := bagOwnRow.holds Try.pinned (OpenSpec.ofChange bagOwnSpec)

/-- ITS FALSE NEIGHBOUR: 'it returns false'. Refute it at one input. -/
def bagOwnWrong : ChangeSpec := { name := "bagOwn", fn := fun _ => fun
  | [d] => { results := [.lit (.bool false)], args := [d] }
  | _ => none }
def BagOwnWrongFalsely : Prop := bagOwnRow.holds Try.pinned (OpenSpec.ofChange bagOwnWrong)

/- THE SECOND FORM. 'bulk': how many values and letters a reading holds, each counted each time it is reached (what is shared counts as often as it is met; a slice's spare places count too). A statement '..UptoSaid' is the law's where the arguments, and the package variables that the reading takes, are together of bulk at most 1048576: NARROWER than '..Said'. Prove '..Said' where nothing that the law and all that it calls make is longer than what came in: it says more and counts as full. Else prove '..UptoSaid'. A law counts once. -/
mutual
def uptoBulk {H : Type} : DataW H → Nat
  | .lit (.string bytes) => bytes.length + 1
  | .lit _ => 1
  | .nil => 1
  | .ptr d => uptoBulk d + 1
  | .slice elems spare => uptoBulkAll elems + uptoBulkAll spare + 1
  | .agg parts => uptoBulkAll parts + 1
  | .iface _ d => uptoBulk d + 1
  | .map entries => uptoBulkEntries entries + 1
  | .held _ => 1
def uptoBulkAll {H : Type} : List (DataW H) → Nat
  | [] => 0
  | d :: r => uptoBulk d + uptoBulkAll r
def uptoBulkEntries {H : Type} : List (Lit × DataW H) → Nat
  | [] => 0
  | x :: r => uptoBulkEntry x + uptoBulkEntries r
def uptoBulkEntry {H : Type} : Lit × DataW H → Nat
  | (.string bytes, d) => bytes.length + uptoBulk d + 1
  | (_, d) => uptoBulk d + 1
 end
def uptoSmall : (H : Type) → List (DataW H) → Bool := fun _ ds => decide (uptoBulkAll ds ≤ 1048576)
def OpenSpec.upto (s : _root_.Go.ChangeSpec) : _root_.Go.OpenSpec := { _root_.Go.OpenSpec.ofChange s with cond := some uptoSmall }

/-- 'touchstonelaw02.BagClasses', WHERE WHAT IT READS IS OF BULK AT MOST 1048576: true; the input reads as it did. -/
def bagClassesUptoRow : OpenClaim := { program := "ytckfnbckoclhpaa", sum := "2fdd3d9abcadf41c584455e402208cad7648957d4e234157b1519a71f2f4ac5b", func := "touchstone/touchstonelaw02.BagClasses", spec := "bagClasses", recurses := true, apart := false, narrowed := true }
def BagClassesUptoSaid : Prop := bagClassesUptoRow.holds Try.pinned (OpenSpec.upto bagClassesSpec)

/-- 'touchstonelaw02.BagWords', WHERE WHAT IT READS IS OF BULK AT MOST 1048576: true; the input reads as it did. -/
def bagWordsUptoRow : OpenClaim := { program := "ytckfnbckoclhpaa", sum := "2fdd3d9abcadf41c584455e402208cad7648957d4e234157b1519a71f2f4ac5b", func := "touchstone/touchstonelaw02.BagWords", spec := "bagWords", recurses := true, apart := false, narrowed := true }
def BagWordsUptoSaid : Prop := bagWordsUptoRow.holds Try.pinned (OpenSpec.upto bagWordsSpec)

/-- 'touchstonelaw02.BagRows', WHERE WHAT IT READS IS OF BULK AT MOST 1048576: true; the input reads as it did. -/
def bagRowsUptoRow : OpenClaim := { program := "ytckfnbckoclhpaa", sum := "2fdd3d9abcadf41c584455e402208cad7648957d4e234157b1519a71f2f4ac5b", func := "touchstone/touchstonelaw02.BagRows", spec := "bagRows", recurses := true, apart := false, narrowed := true }
def BagRowsUptoSaid : Prop := bagRowsUptoRow.holds Try.pinned (OpenSpec.upto bagRowsSpec)

/-- 'touchstonelaw02.BagSets', WHERE WHAT IT READS IS OF BULK AT MOST 1048576: true; the input reads as it did. -/
def bagSetsUptoRow : OpenClaim := { program := "ytckfnbckoclhpaa", sum := "2fdd3d9abcadf41c584455e402208cad7648957d4e234157b1519a71f2f4ac5b", func := "touchstone/touchstonelaw02.BagSets", spec := "bagSets", unfollowed := true, recurses := true, apart := false, narrowed := true }
def BagSetsUptoSaid : Prop := bagSetsUptoRow.holds Try.pinned (OpenSpec.upto bagSetsSpec)

/-- 'touchstonelaw02.BagMaps', WHERE WHAT IT READS IS OF BULK AT MOST 1048576: true; the input reads as it did. -/
def bagMapsUptoRow : OpenClaim := { program := "ytckfnbckoclhpaa", sum := "2fdd3d9abcadf41c584455e402208cad7648957d4e234157b1519a71f2f4ac5b", func := "touchstone/touchstonelaw02.BagMaps", spec := "bagMaps", inPlace := ["slices.overlaps[touchstone/bag.Pair[int, int]]"], unfollowed := true, recurses := true, apart := false, narrowed := true }
def BagMapsUptoSaid : Prop := bagMapsUptoRow.holds Try.pinned (OpenSpec.upto bagMapsSpec)

/-- 'touchstonelaw02.BagOwn', WHERE WHAT IT READS IS OF BULK AT MOST 1048576: true; the input reads as it did. -/
def bagOwnUptoRow : OpenClaim := { program := "ytckfnbckoclhpaa", sum := "2fdd3d9abcadf41c584455e402208cad7648957d4e234157b1519a71f2f4ac5b", func := "touchstone/touchstonelaw02.BagOwn", spec := "bagOwn", inPlace := ["slices.overlaps[touchstone/bag.Pair[int, int]]"], unfollowed := true, recurses := true, apart := false, narrowed := true }
def BagOwnUptoSaid : Prop := bagOwnUptoRow.holds Try.pinned (OpenSpec.upto bagOwnSpec)

end Rows
end Go.Proofs.Ytckfnbckoclhpaa
