/-
  No cell of these rows narrows 'for every input' (looked for: loops, veiled, ifaces, maps, wideKeys, modest, calm, conditions, laid).
  DERIVED. THE GIVEN ROWS OF THIS SEAT. 17 by the template 'for every input the law returns true; each argument reads behind the call as it read before'; 0 by the template 'total and deterministic' (their statements: YtaccjnekonmkoaaTotals.lean).
  GIVEN WITH THE SEED: the statements are not yours to turn. If you find one false, say at which input.
  Laid BY PROGRAM, IN A SANDBOX (cutbox-rows.mjs): the forced cells as the released guide's own fill.sh prints them over the translation 8a7324e4f36c3bca… (all of the seat's roots in one cut). By AI agents, Wed Nov 11 2026. No macro, syntax, notation, axiom, sorry.
-/
import Derived.Test.YtaccjnekonmkoaaChecked
import GoSem.Claim
import GoSem.ClaimJoined
import GoSem.ClaimMapViews
import Derived.JoinedTies
import Derived.KernelRfl
namespace Go.Proofs.Ytaccjnekonmkoaa
/- THE CELL 'sum', in the pinned program and in every row, IS THE sha256 OF THE DUMP (.gsa) THAT YtaccjnekonmkoaaProg.lean LOADS. Nothing in Lean hashes anything: it is a label: what it is worth is what the hold of that sum in a sandbox is worth. -/
noncomputable def Try.pinned : Pinned := { name := "ytaccjnekonmkoaa", sum := "8a7324e4f36c3bcaaf7fb407399caadc5a8b67276565aef5fec316a94c9e6557", checked := Try.checked }
namespace Rows
def none {H : Type} : Left H := { results := [], args := [] }

/-- 'winepresslaw13.MtfMatches': WHATEVER THE INPUT: true; the input reads as it did. -/
def mtfMatchesSpec : ChangeSpec := { name := "mtfMatches", fn := fun _ => fun
  | [d1, d2, d3, d4] => { results := [.lit (.bool true)], args := [d1, d2, d3, d4] }
  | _ => none }
def mtfMatchesRow : OpenClaim := { program := "ytaccjnekonmkoaa", sum := "8a7324e4f36c3bcaaf7fb407399caadc5a8b67276565aef5fec316a94c9e6557", func := "winepress/winepresslaw13.MtfMatches", spec := "mtfMatches", inPlace := ["internal/bytealg.IndexByte"], apart := false }
def MtfMatchesSaid : Prop := mtfMatchesRow.holds Try.pinned (OpenSpec.ofChange mtfMatchesSpec)

/-- ITS FALSE NEIGHBOUR: 'it returns false'. Refute it at one input. -/
def mtfMatchesWrong : ChangeSpec := { name := "mtfMatches", fn := fun _ => fun
  | [d1, d2, d3, d4] => { results := [.lit (.bool false)], args := [d1, d2, d3, d4] }
  | _ => none }
def MtfMatchesWrongFalsely : Prop := mtfMatchesRow.holds Try.pinned (OpenSpec.ofChange mtfMatchesWrong)

/-- 'winepresslaw13.MtfBack': WHATEVER THE INPUT: true; the input reads as it did. -/
def mtfBackSpec : ChangeSpec := { name := "mtfBack", fn := fun _ => fun
  | [d] => { results := [.lit (.bool true)], args := [d] }
  | _ => none }
def mtfBackRow : OpenClaim := { program := "ytaccjnekonmkoaa", sum := "8a7324e4f36c3bcaaf7fb407399caadc5a8b67276565aef5fec316a94c9e6557", func := "winepress/winepresslaw13.MtfBack", spec := "mtfBack", inPlace := ["internal/bytealg.IndexByte"], apart := false }
def MtfBackSaid : Prop := mtfBackRow.holds Try.pinned (OpenSpec.ofChange mtfBackSpec)

/-- ITS FALSE NEIGHBOUR: 'it returns false'. Refute it at one input. -/
def mtfBackWrong : ChangeSpec := { name := "mtfBack", fn := fun _ => fun
  | [d] => { results := [.lit (.bool false)], args := [d] }
  | _ => none }
def MtfBackWrongFalsely : Prop := mtfBackRow.holds Try.pinned (OpenSpec.ofChange mtfBackWrong)

/-- 'winepresslaw13.MtfMoves': WHATEVER THE INPUT: true; the input reads as it did. -/
def mtfMovesSpec : ChangeSpec := { name := "mtfMoves", fn := fun _ => fun
  | [d1, d2] => { results := [.lit (.bool true)], args := [d1, d2] }
  | _ => none }
def mtfMovesRow : OpenClaim := { program := "ytaccjnekonmkoaa", sum := "8a7324e4f36c3bcaaf7fb407399caadc5a8b67276565aef5fec316a94c9e6557", func := "winepress/winepresslaw13.MtfMoves", spec := "mtfMoves", inPlace := ["internal/bytealg.IndexByte"], apart := false }
def MtfMovesSaid : Prop := mtfMovesRow.holds Try.pinned (OpenSpec.ofChange mtfMovesSpec)

/-- ITS FALSE NEIGHBOUR: 'it returns false'. Refute it at one input. -/
def mtfMovesWrong : ChangeSpec := { name := "mtfMoves", fn := fun _ => fun
  | [d1, d2] => { results := [.lit (.bool false)], args := [d1, d2] }
  | _ => none }
def MtfMovesWrongFalsely : Prop := mtfMovesRow.holds Try.pinned (OpenSpec.ofChange mtfMovesWrong)

/-- 'winepresslaw13.MtfPlaces': WHATEVER THE INPUT: true; the input reads as it did. -/
def mtfPlacesSpec : ChangeSpec := { name := "mtfPlaces", fn := fun _ => fun
  | [d] => { results := [.lit (.bool true)], args := [d] }
  | _ => none }
def mtfPlacesRow : OpenClaim := { program := "ytaccjnekonmkoaa", sum := "8a7324e4f36c3bcaaf7fb407399caadc5a8b67276565aef5fec316a94c9e6557", func := "winepress/winepresslaw13.MtfPlaces", spec := "mtfPlaces", inPlace := ["internal/bytealg.IndexByte"], apart := false }
def MtfPlacesSaid : Prop := mtfPlacesRow.holds Try.pinned (OpenSpec.ofChange mtfPlacesSpec)

/-- ITS FALSE NEIGHBOUR: 'it returns false'. Refute it at one input. -/
def mtfPlacesWrong : ChangeSpec := { name := "mtfPlaces", fn := fun _ => fun
  | [d] => { results := [.lit (.bool false)], args := [d] }
  | _ => none }
def MtfPlacesWrongFalsely : Prop := mtfPlacesRow.holds Try.pinned (OpenSpec.ofChange mtfPlacesWrong)

/-- 'winepresslaw13.MtfTwice': WHATEVER THE INPUT: true; the input reads as it did. -/
def mtfTwiceSpec : ChangeSpec := { name := "mtfTwice", fn := fun _ => fun
  | [d1, d2, d3] => { results := [.lit (.bool true)], args := [d1, d2, d3] }
  | _ => none }
def mtfTwiceRow : OpenClaim := { program := "ytaccjnekonmkoaa", sum := "8a7324e4f36c3bcaaf7fb407399caadc5a8b67276565aef5fec316a94c9e6557", func := "winepress/winepresslaw13.MtfTwice", spec := "mtfTwice", inPlace := ["internal/bytealg.IndexByte"], apart := false }
def MtfTwiceSaid : Prop := mtfTwiceRow.holds Try.pinned (OpenSpec.ofChange mtfTwiceSpec)

/-- ITS FALSE NEIGHBOUR: 'it returns false'. Refute it at one input. -/
def mtfTwiceWrong : ChangeSpec := { name := "mtfTwice", fn := fun _ => fun
  | [d1, d2, d3] => { results := [.lit (.bool false)], args := [d1, d2, d3] }
  | _ => none }
def MtfTwiceWrongFalsely : Prop := mtfTwiceRow.holds Try.pinned (OpenSpec.ofChange mtfTwiceWrong)

/-- 'winepresslaw14.ZeroRunMatches': WHATEVER THE INPUT: true; the input reads as it did. -/
def zeroRunMatchesSpec : ChangeSpec := { name := "zeroRunMatches", fn := fun _ => fun
  | [d1, d2, d3, d4, d5] => { results := [.lit (.bool true)], args := [d1, d2, d3, d4, d5] }
  | _ => none }
def zeroRunMatchesRow : OpenClaim := { program := "ytaccjnekonmkoaa", sum := "8a7324e4f36c3bcaaf7fb407399caadc5a8b67276565aef5fec316a94c9e6557", func := "winepress/winepresslaw14.ZeroRunMatches", spec := "zeroRunMatches", unfollowed := true, recurses := true, apart := false }
def ZeroRunMatchesSaid : Prop := zeroRunMatchesRow.holds Try.pinned (OpenSpec.ofChange zeroRunMatchesSpec)

/-- ITS FALSE NEIGHBOUR: 'it returns false'. Refute it at one input. -/
def zeroRunMatchesWrong : ChangeSpec := { name := "zeroRunMatches", fn := fun _ => fun
  | [d1, d2, d3, d4, d5] => { results := [.lit (.bool false)], args := [d1, d2, d3, d4, d5] }
  | _ => none }
def ZeroRunMatchesWrongFalsely : Prop := zeroRunMatchesRow.holds Try.pinned (OpenSpec.ofChange zeroRunMatchesWrong)

/-- 'winepresslaw14.ZeroRunBack': WHATEVER THE INPUT: true; the input reads as it did. -/
def zeroRunBackSpec : ChangeSpec := { name := "zeroRunBack", fn := fun _ => fun
  | [d] => { results := [.lit (.bool true)], args := [d] }
  | _ => none }
def zeroRunBackRow : OpenClaim := { program := "ytaccjnekonmkoaa", sum := "8a7324e4f36c3bcaaf7fb407399caadc5a8b67276565aef5fec316a94c9e6557", func := "winepress/winepresslaw14.ZeroRunBack", spec := "zeroRunBack", unfollowed := true, recurses := true, apart := false }
def ZeroRunBackSaid : Prop := zeroRunBackRow.holds Try.pinned (OpenSpec.ofChange zeroRunBackSpec)

/-- ITS FALSE NEIGHBOUR: 'it returns false'. Refute it at one input. -/
def zeroRunBackWrong : ChangeSpec := { name := "zeroRunBack", fn := fun _ => fun
  | [d] => { results := [.lit (.bool false)], args := [d] }
  | _ => none }
def ZeroRunBackWrongFalsely : Prop := zeroRunBackRow.holds Try.pinned (OpenSpec.ofChange zeroRunBackWrong)

/-- 'winepresslaw14.ZeroRunOnly': WHATEVER THE INPUT: true; the input reads as it did. -/
def zeroRunOnlySpec : ChangeSpec := { name := "zeroRunOnly", fn := fun _ => fun
  | [d1, d2] => { results := [.lit (.bool true)], args := [d1, d2] }
  | _ => none }
def zeroRunOnlyRow : OpenClaim := { program := "ytaccjnekonmkoaa", sum := "8a7324e4f36c3bcaaf7fb407399caadc5a8b67276565aef5fec316a94c9e6557", func := "winepress/winepresslaw14.ZeroRunOnly", spec := "zeroRunOnly", unfollowed := true, recurses := true, apart := false }
def ZeroRunOnlySaid : Prop := zeroRunOnlyRow.holds Try.pinned (OpenSpec.ofChange zeroRunOnlySpec)

/-- ITS FALSE NEIGHBOUR: 'it returns false'. Refute it at one input. -/
def zeroRunOnlyWrong : ChangeSpec := { name := "zeroRunOnly", fn := fun _ => fun
  | [d1, d2] => { results := [.lit (.bool false)], args := [d1, d2] }
  | _ => none }
def ZeroRunOnlyWrongFalsely : Prop := zeroRunOnlyRow.holds Try.pinned (OpenSpec.ofChange zeroRunOnlyWrong)

/-- 'winepresslaw14.ZeroRunDigits': WHATEVER THE INPUT: true; the input reads as it did. -/
def zeroRunDigitsSpec : ChangeSpec := { name := "zeroRunDigits", fn := fun _ => fun
  | [d] => { results := [.lit (.bool true)], args := [d] }
  | _ => none }
def zeroRunDigitsRow : OpenClaim := { program := "ytaccjnekonmkoaa", sum := "8a7324e4f36c3bcaaf7fb407399caadc5a8b67276565aef5fec316a94c9e6557", func := "winepress/winepresslaw14.ZeroRunDigits", spec := "zeroRunDigits", unfollowed := true, recurses := true, apart := false }
def ZeroRunDigitsSaid : Prop := zeroRunDigitsRow.holds Try.pinned (OpenSpec.ofChange zeroRunDigitsSpec)

/-- ITS FALSE NEIGHBOUR: 'it returns false'. Refute it at one input. -/
def zeroRunDigitsWrong : ChangeSpec := { name := "zeroRunDigits", fn := fun _ => fun
  | [d] => { results := [.lit (.bool false)], args := [d] }
  | _ => none }
def ZeroRunDigitsWrongFalsely : Prop := zeroRunDigitsRow.holds Try.pinned (OpenSpec.ofChange zeroRunDigitsWrong)

/-- 'winepresslaw15.SymEncMatches': WHATEVER THE INPUT: true; the input reads as it did. -/
def symEncMatchesSpec : ChangeSpec := { name := "symEncMatches", fn := fun _ => fun
  | [d1, d2] => { results := [.lit (.bool true)], args := [d1, d2] }
  | _ => none }
def symEncMatchesRow : OpenClaim := { program := "ytaccjnekonmkoaa", sum := "8a7324e4f36c3bcaaf7fb407399caadc5a8b67276565aef5fec316a94c9e6557", func := "winepress/winepresslaw15.SymEncMatches", spec := "symEncMatches", inPlace := ["internal/bytealg.IndexByte"], unfollowed := true, recurses := true, apart := false }
def SymEncMatchesSaid : Prop := symEncMatchesRow.holds Try.pinned (OpenSpec.ofChange symEncMatchesSpec)

/-- ITS FALSE NEIGHBOUR: 'it returns false'. Refute it at one input. -/
def symEncMatchesWrong : ChangeSpec := { name := "symEncMatches", fn := fun _ => fun
  | [d1, d2] => { results := [.lit (.bool false)], args := [d1, d2] }
  | _ => none }
def SymEncMatchesWrongFalsely : Prop := symEncMatchesRow.holds Try.pinned (OpenSpec.ofChange symEncMatchesWrong)

/-- 'winepresslaw15.SymEncParts': WHATEVER THE INPUT: true; the input reads as it did. -/
def symEncPartsSpec : ChangeSpec := { name := "symEncParts", fn := fun _ => fun
  | [d1, d2] => { results := [.lit (.bool true)], args := [d1, d2] }
  | _ => none }
def symEncPartsRow : OpenClaim := { program := "ytaccjnekonmkoaa", sum := "8a7324e4f36c3bcaaf7fb407399caadc5a8b67276565aef5fec316a94c9e6557", func := "winepress/winepresslaw15.SymEncParts", spec := "symEncParts", inPlace := ["internal/bytealg.IndexByte"], unfollowed := true, recurses := true, apart := false }
def SymEncPartsSaid : Prop := symEncPartsRow.holds Try.pinned (OpenSpec.ofChange symEncPartsSpec)

/-- ITS FALSE NEIGHBOUR: 'it returns false'. Refute it at one input. -/
def symEncPartsWrong : ChangeSpec := { name := "symEncParts", fn := fun _ => fun
  | [d1, d2] => { results := [.lit (.bool false)], args := [d1, d2] }
  | _ => none }
def SymEncPartsWrongFalsely : Prop := symEncPartsRow.holds Try.pinned (OpenSpec.ofChange symEncPartsWrong)

/-- 'winepresslaw15.SymEncHolds': WHATEVER THE INPUT: true; the input reads as it did. -/
def symEncHoldsSpec : ChangeSpec := { name := "symEncHolds", fn := fun _ => fun
  | [d] => { results := [.lit (.bool true)], args := [d] }
  | _ => none }
def symEncHoldsRow : OpenClaim := { program := "ytaccjnekonmkoaa", sum := "8a7324e4f36c3bcaaf7fb407399caadc5a8b67276565aef5fec316a94c9e6557", func := "winepress/winepresslaw15.SymEncHolds", spec := "symEncHolds", inPlace := ["internal/bytealg.IndexByte"], unfollowed := true, recurses := true, apart := false }
def SymEncHoldsSaid : Prop := symEncHoldsRow.holds Try.pinned (OpenSpec.ofChange symEncHoldsSpec)

/-- ITS FALSE NEIGHBOUR: 'it returns false'. Refute it at one input. -/
def symEncHoldsWrong : ChangeSpec := { name := "symEncHolds", fn := fun _ => fun
  | [d] => { results := [.lit (.bool false)], args := [d] }
  | _ => none }
def SymEncHoldsWrongFalsely : Prop := symEncHoldsRow.holds Try.pinned (OpenSpec.ofChange symEncHoldsWrong)

/-- 'winepresslaw15.SymEncRun': WHATEVER THE INPUT: true; the input reads as it did. -/
def symEncRunSpec : ChangeSpec := { name := "symEncRun", fn := fun _ => fun
  | [d1, d2, d3] => { results := [.lit (.bool true)], args := [d1, d2, d3] }
  | _ => none }
def symEncRunRow : OpenClaim := { program := "ytaccjnekonmkoaa", sum := "8a7324e4f36c3bcaaf7fb407399caadc5a8b67276565aef5fec316a94c9e6557", func := "winepress/winepresslaw15.SymEncRun", spec := "symEncRun", inPlace := ["internal/bytealg.IndexByte"], unfollowed := true, recurses := true, apart := false }
def SymEncRunSaid : Prop := symEncRunRow.holds Try.pinned (OpenSpec.ofChange symEncRunSpec)

/-- ITS FALSE NEIGHBOUR: 'it returns false'. Refute it at one input. -/
def symEncRunWrong : ChangeSpec := { name := "symEncRun", fn := fun _ => fun
  | [d1, d2, d3] => { results := [.lit (.bool false)], args := [d1, d2, d3] }
  | _ => none }
def SymEncRunWrongFalsely : Prop := symEncRunRow.holds Try.pinned (OpenSpec.ofChange symEncRunWrong)

/-- 'winepresslaw16.SymDecMatches': WHATEVER THE INPUT: true; the input reads as it did. -/
def symDecMatchesSpec : ChangeSpec := { name := "symDecMatches", fn := fun _ => fun
  | [d1, d2, d3, d4] => { results := [.lit (.bool true)], args := [d1, d2, d3, d4] }
  | _ => none }
def symDecMatchesRow : OpenClaim := { program := "ytaccjnekonmkoaa", sum := "8a7324e4f36c3bcaaf7fb407399caadc5a8b67276565aef5fec316a94c9e6557", func := "winepress/winepresslaw16.SymDecMatches", spec := "symDecMatches", inPlace := ["internal/bytealg.MakeNoZero"], apart := false }
def SymDecMatchesSaid : Prop := symDecMatchesRow.holds Try.pinned (OpenSpec.ofChange symDecMatchesSpec)

/-- ITS FALSE NEIGHBOUR: 'it returns false'. Refute it at one input. -/
def symDecMatchesWrong : ChangeSpec := { name := "symDecMatches", fn := fun _ => fun
  | [d1, d2, d3, d4] => { results := [.lit (.bool false)], args := [d1, d2, d3, d4] }
  | _ => none }
def SymDecMatchesWrongFalsely : Prop := symDecMatchesRow.holds Try.pinned (OpenSpec.ofChange symDecMatchesWrong)

/-- 'winepresslaw16.SymDecForth': WHATEVER THE INPUT: true; the input reads as it did. -/
def symDecForthSpec : ChangeSpec := { name := "symDecForth", fn := fun _ => fun
  | [d1, d2, d3] => { results := [.lit (.bool true)], args := [d1, d2, d3] }
  | _ => none }
def symDecForthRow : OpenClaim := { program := "ytaccjnekonmkoaa", sum := "8a7324e4f36c3bcaaf7fb407399caadc5a8b67276565aef5fec316a94c9e6557", func := "winepress/winepresslaw16.SymDecForth", spec := "symDecForth", inPlace := ["internal/bytealg.MakeNoZero"], apart := false }
def SymDecForthSaid : Prop := symDecForthRow.holds Try.pinned (OpenSpec.ofChange symDecForthSpec)

/-- ITS FALSE NEIGHBOUR: 'it returns false'. Refute it at one input. -/
def symDecForthWrong : ChangeSpec := { name := "symDecForth", fn := fun _ => fun
  | [d1, d2, d3] => { results := [.lit (.bool false)], args := [d1, d2, d3] }
  | _ => none }
def SymDecForthWrongFalsely : Prop := symDecForthRow.holds Try.pinned (OpenSpec.ofChange symDecForthWrong)

/-- 'winepresslaw16.SymDecNever': WHATEVER THE INPUT: true; the input reads as it did. -/
def symDecNeverSpec : ChangeSpec := { name := "symDecNever", fn := fun _ => fun
  | [d1, d2] => { results := [.lit (.bool true)], args := [d1, d2] }
  | _ => none }
def symDecNeverRow : OpenClaim := { program := "ytaccjnekonmkoaa", sum := "8a7324e4f36c3bcaaf7fb407399caadc5a8b67276565aef5fec316a94c9e6557", func := "winepress/winepresslaw16.SymDecNever", spec := "symDecNever", inPlace := ["internal/bytealg.MakeNoZero"], apart := false }
def SymDecNeverSaid : Prop := symDecNeverRow.holds Try.pinned (OpenSpec.ofChange symDecNeverSpec)

/-- ITS FALSE NEIGHBOUR: 'it returns false'. Refute it at one input. -/
def symDecNeverWrong : ChangeSpec := { name := "symDecNever", fn := fun _ => fun
  | [d1, d2] => { results := [.lit (.bool false)], args := [d1, d2] }
  | _ => none }
def SymDecNeverWrongFalsely : Prop := symDecNeverRow.holds Try.pinned (OpenSpec.ofChange symDecNeverWrong)

/-- 'winepresslaw16.SymDecRuns': WHATEVER THE INPUT: true; the input reads as it did. -/
def symDecRunsSpec : ChangeSpec := { name := "symDecRuns", fn := fun _ => fun
  | [d1, d2] => { results := [.lit (.bool true)], args := [d1, d2] }
  | _ => none }
def symDecRunsRow : OpenClaim := { program := "ytaccjnekonmkoaa", sum := "8a7324e4f36c3bcaaf7fb407399caadc5a8b67276565aef5fec316a94c9e6557", func := "winepress/winepresslaw16.SymDecRuns", spec := "symDecRuns", inPlace := ["internal/bytealg.MakeNoZero"], apart := false }
def SymDecRunsSaid : Prop := symDecRunsRow.holds Try.pinned (OpenSpec.ofChange symDecRunsSpec)

/-- ITS FALSE NEIGHBOUR: 'it returns false'. Refute it at one input. -/
def symDecRunsWrong : ChangeSpec := { name := "symDecRuns", fn := fun _ => fun
  | [d1, d2] => { results := [.lit (.bool false)], args := [d1, d2] }
  | _ => none }
def SymDecRunsWrongFalsely : Prop := symDecRunsRow.holds Try.pinned (OpenSpec.ofChange symDecRunsWrong)

/- THE SECOND FORM. 'bulk': how many values and letters a reading holds, each counted each time it is reached (what is shared counts as often as it is met; a slice's spare places count too). A statement '..UptoSaid' is the law's where the arguments, and the package variables that the reading takes, are together of bulk at most 1048576: NARROWER than '..Said'. Prove '..Said' where nothing that the law and all that it calls make is longer than what came in: it says more and counts as full. Else prove '..UptoSaid'. A law counts once. -/
mutual
def uptoBulk {H : Type} : DataW H → Nat
  | .lit (.string bytes) => bytes.length + 1
  | .lit _ => 1
  | .nil => 1
  | .ptr d => uptoBulk d + 1
  | .slice elems spare => uptoBulkAll elems + uptoBulkAll spare + 1
  | .agg parts => uptoBulkAll parts + 1
  | .iface _ d => uptoBulk d + 1
  | .map entries => uptoBulkEntries entries + 1
  | .held _ => 1
def uptoBulkAll {H : Type} : List (DataW H) → Nat
  | [] => 0
  | d :: r => uptoBulk d + uptoBulkAll r
def uptoBulkEntries {H : Type} : List (Lit × DataW H) → Nat
  | [] => 0
  | x :: r => uptoBulkEntry x + uptoBulkEntries r
def uptoBulkEntry {H : Type} : Lit × DataW H → Nat
  | (.string bytes, d) => bytes.length + uptoBulk d + 1
  | (_, d) => uptoBulk d + 1
 end
def uptoSmall : (H : Type) → List (DataW H) → Bool := fun _ ds => decide (uptoBulkAll ds ≤ 1048576)
def OpenSpec.upto (s : _root_.Go.ChangeSpec) : _root_.Go.OpenSpec := { _root_.Go.OpenSpec.ofChange s with cond := some uptoSmall }

/-- 'winepresslaw13.MtfMatches', WHERE WHAT IT READS IS OF BULK AT MOST 1048576: true; the input reads as it did. -/
def mtfMatchesUptoRow : OpenClaim := { program := "ytaccjnekonmkoaa", sum := "8a7324e4f36c3bcaaf7fb407399caadc5a8b67276565aef5fec316a94c9e6557", func := "winepress/winepresslaw13.MtfMatches", spec := "mtfMatches", inPlace := ["internal/bytealg.IndexByte"], apart := false, narrowed := true }
def MtfMatchesUptoSaid : Prop := mtfMatchesUptoRow.holds Try.pinned (OpenSpec.upto mtfMatchesSpec)

/-- 'winepresslaw13.MtfBack', WHERE WHAT IT READS IS OF BULK AT MOST 1048576: true; the input reads as it did. -/
def mtfBackUptoRow : OpenClaim := { program := "ytaccjnekonmkoaa", sum := "8a7324e4f36c3bcaaf7fb407399caadc5a8b67276565aef5fec316a94c9e6557", func := "winepress/winepresslaw13.MtfBack", spec := "mtfBack", inPlace := ["internal/bytealg.IndexByte"], apart := false, narrowed := true }
def MtfBackUptoSaid : Prop := mtfBackUptoRow.holds Try.pinned (OpenSpec.upto mtfBackSpec)

/-- 'winepresslaw13.MtfMoves', WHERE WHAT IT READS IS OF BULK AT MOST 1048576: true; the input reads as it did. -/
def mtfMovesUptoRow : OpenClaim := { program := "ytaccjnekonmkoaa", sum := "8a7324e4f36c3bcaaf7fb407399caadc5a8b67276565aef5fec316a94c9e6557", func := "winepress/winepresslaw13.MtfMoves", spec := "mtfMoves", inPlace := ["internal/bytealg.IndexByte"], apart := false, narrowed := true }
def MtfMovesUptoSaid : Prop := mtfMovesUptoRow.holds Try.pinned (OpenSpec.upto mtfMovesSpec)

/-- 'winepresslaw13.MtfPlaces', WHERE WHAT IT READS IS OF BULK AT MOST 1048576: true; the input reads as it did. -/
def mtfPlacesUptoRow : OpenClaim := { program := "ytaccjnekonmkoaa", sum := "8a7324e4f36c3bcaaf7fb407399caadc5a8b67276565aef5fec316a94c9e6557", func := "winepress/winepresslaw13.MtfPlaces", spec := "mtfPlaces", inPlace := ["internal/bytealg.IndexByte"], apart := false, narrowed := true }
def MtfPlacesUptoSaid : Prop := mtfPlacesUptoRow.holds Try.pinned (OpenSpec.upto mtfPlacesSpec)

/-- 'winepresslaw13.MtfTwice', WHERE WHAT IT READS IS OF BULK AT MOST 1048576: true; the input reads as it did. -/
def mtfTwiceUptoRow : OpenClaim := { program := "ytaccjnekonmkoaa", sum := "8a7324e4f36c3bcaaf7fb407399caadc5a8b67276565aef5fec316a94c9e6557", func := "winepress/winepresslaw13.MtfTwice", spec := "mtfTwice", inPlace := ["internal/bytealg.IndexByte"], apart := false, narrowed := true }
def MtfTwiceUptoSaid : Prop := mtfTwiceUptoRow.holds Try.pinned (OpenSpec.upto mtfTwiceSpec)

/-- 'winepresslaw14.ZeroRunMatches', WHERE WHAT IT READS IS OF BULK AT MOST 1048576: true; the input reads as it did. -/
def zeroRunMatchesUptoRow : OpenClaim := { program := "ytaccjnekonmkoaa", sum := "8a7324e4f36c3bcaaf7fb407399caadc5a8b67276565aef5fec316a94c9e6557", func := "winepress/winepresslaw14.ZeroRunMatches", spec := "zeroRunMatches", unfollowed := true, recurses := true, apart := false, narrowed := true }
def ZeroRunMatchesUptoSaid : Prop := zeroRunMatchesUptoRow.holds Try.pinned (OpenSpec.upto zeroRunMatchesSpec)

/-- 'winepresslaw14.ZeroRunBack', WHERE WHAT IT READS IS OF BULK AT MOST 1048576: true; the input reads as it did. -/
def zeroRunBackUptoRow : OpenClaim := { program := "ytaccjnekonmkoaa", sum := "8a7324e4f36c3bcaaf7fb407399caadc5a8b67276565aef5fec316a94c9e6557", func := "winepress/winepresslaw14.ZeroRunBack", spec := "zeroRunBack", unfollowed := true, recurses := true, apart := false, narrowed := true }
def ZeroRunBackUptoSaid : Prop := zeroRunBackUptoRow.holds Try.pinned (OpenSpec.upto zeroRunBackSpec)

/-- 'winepresslaw14.ZeroRunOnly', WHERE WHAT IT READS IS OF BULK AT MOST 1048576: true; the input reads as it did. -/
def zeroRunOnlyUptoRow : OpenClaim := { program := "ytaccjnekonmkoaa", sum := "8a7324e4f36c3bcaaf7fb407399caadc5a8b67276565aef5fec316a94c9e6557", func := "winepress/winepresslaw14.ZeroRunOnly", spec := "zeroRunOnly", unfollowed := true, recurses := true, apart := false, narrowed := true }
def ZeroRunOnlyUptoSaid : Prop := zeroRunOnlyUptoRow.holds Try.pinned (OpenSpec.upto zeroRunOnlySpec)

/-- 'winepresslaw14.ZeroRunDigits', WHERE WHAT IT READS IS OF BULK AT MOST 1048576: true; the input reads as it did. -/
def zeroRunDigitsUptoRow : OpenClaim := { program := "ytaccjnekonmkoaa", sum := "8a7324e4f36c3bcaaf7fb407399caadc5a8b67276565aef5fec316a94c9e6557", func := "winepress/winepresslaw14.ZeroRunDigits", spec := "zeroRunDigits", unfollowed := true, recurses := true, apart := false, narrowed := true }
def ZeroRunDigitsUptoSaid : Prop := zeroRunDigitsUptoRow.holds Try.pinned (OpenSpec.upto zeroRunDigitsSpec)

/-- 'winepresslaw15.SymEncMatches', WHERE WHAT IT READS IS OF BULK AT MOST 1048576: true; the input reads as it did. -/
def symEncMatchesUptoRow : OpenClaim := { program := "ytaccjnekonmkoaa", sum := "8a7324e4f36c3bcaaf7fb407399caadc5a8b67276565aef5fec316a94c9e6557", func := "winepress/winepresslaw15.SymEncMatches", spec := "symEncMatches", inPlace := ["internal/bytealg.IndexByte"], unfollowed := true, recurses := true, apart := false, narrowed := true }
def SymEncMatchesUptoSaid : Prop := symEncMatchesUptoRow.holds Try.pinned (OpenSpec.upto symEncMatchesSpec)

/-- 'winepresslaw15.SymEncParts', WHERE WHAT IT READS IS OF BULK AT MOST 1048576: true; the input reads as it did. -/
def symEncPartsUptoRow : OpenClaim := { program := "ytaccjnekonmkoaa", sum := "8a7324e4f36c3bcaaf7fb407399caadc5a8b67276565aef5fec316a94c9e6557", func := "winepress/winepresslaw15.SymEncParts", spec := "symEncParts", inPlace := ["internal/bytealg.IndexByte"], unfollowed := true, recurses := true, apart := false, narrowed := true }
def SymEncPartsUptoSaid : Prop := symEncPartsUptoRow.holds Try.pinned (OpenSpec.upto symEncPartsSpec)

/-- 'winepresslaw15.SymEncHolds', WHERE WHAT IT READS IS OF BULK AT MOST 1048576: true; the input reads as it did. -/
def symEncHoldsUptoRow : OpenClaim := { program := "ytaccjnekonmkoaa", sum := "8a7324e4f36c3bcaaf7fb407399caadc5a8b67276565aef5fec316a94c9e6557", func := "winepress/winepresslaw15.SymEncHolds", spec := "symEncHolds", inPlace := ["internal/bytealg.IndexByte"], unfollowed := true, recurses := true, apart := false, narrowed := true }
def SymEncHoldsUptoSaid : Prop := symEncHoldsUptoRow.holds Try.pinned (OpenSpec.upto symEncHoldsSpec)

/-- 'winepresslaw15.SymEncRun', WHERE WHAT IT READS IS OF BULK AT MOST 1048576: true; the input reads as it did. -/
def symEncRunUptoRow : OpenClaim := { program := "ytaccjnekonmkoaa", sum := "8a7324e4f36c3bcaaf7fb407399caadc5a8b67276565aef5fec316a94c9e6557", func := "winepress/winepresslaw15.SymEncRun", spec := "symEncRun", inPlace := ["internal/bytealg.IndexByte"], unfollowed := true, recurses := true, apart := false, narrowed := true }
def SymEncRunUptoSaid : Prop := symEncRunUptoRow.holds Try.pinned (OpenSpec.upto symEncRunSpec)

/-- 'winepresslaw16.SymDecMatches', WHERE WHAT IT READS IS OF BULK AT MOST 1048576: true; the input reads as it did. -/
def symDecMatchesUptoRow : OpenClaim := { program := "ytaccjnekonmkoaa", sum := "8a7324e4f36c3bcaaf7fb407399caadc5a8b67276565aef5fec316a94c9e6557", func := "winepress/winepresslaw16.SymDecMatches", spec := "symDecMatches", inPlace := ["internal/bytealg.MakeNoZero"], apart := false, narrowed := true }
def SymDecMatchesUptoSaid : Prop := symDecMatchesUptoRow.holds Try.pinned (OpenSpec.upto symDecMatchesSpec)

/-- 'winepresslaw16.SymDecForth', WHERE WHAT IT READS IS OF BULK AT MOST 1048576: true; the input reads as it did. -/
def symDecForthUptoRow : OpenClaim := { program := "ytaccjnekonmkoaa", sum := "8a7324e4f36c3bcaaf7fb407399caadc5a8b67276565aef5fec316a94c9e6557", func := "winepress/winepresslaw16.SymDecForth", spec := "symDecForth", inPlace := ["internal/bytealg.MakeNoZero"], apart := false, narrowed := true }
def SymDecForthUptoSaid : Prop := symDecForthUptoRow.holds Try.pinned (OpenSpec.upto symDecForthSpec)

/-- 'winepresslaw16.SymDecNever', WHERE WHAT IT READS IS OF BULK AT MOST 1048576: true; the input reads as it did. -/
def symDecNeverUptoRow : OpenClaim := { program := "ytaccjnekonmkoaa", sum := "8a7324e4f36c3bcaaf7fb407399caadc5a8b67276565aef5fec316a94c9e6557", func := "winepress/winepresslaw16.SymDecNever", spec := "symDecNever", inPlace := ["internal/bytealg.MakeNoZero"], apart := false, narrowed := true }
def SymDecNeverUptoSaid : Prop := symDecNeverUptoRow.holds Try.pinned (OpenSpec.upto symDecNeverSpec)

/-- 'winepresslaw16.SymDecRuns', WHERE WHAT IT READS IS OF BULK AT MOST 1048576: true; the input reads as it did. -/
def symDecRunsUptoRow : OpenClaim := { program := "ytaccjnekonmkoaa", sum := "8a7324e4f36c3bcaaf7fb407399caadc5a8b67276565aef5fec316a94c9e6557", func := "winepress/winepresslaw16.SymDecRuns", spec := "symDecRuns", inPlace := ["internal/bytealg.MakeNoZero"], apart := false, narrowed := true }
def SymDecRunsUptoSaid : Prop := symDecRunsUptoRow.holds Try.pinned (OpenSpec.upto symDecRunsSpec)

end Rows
end Go.Proofs.Ytaccjnekonmkoaa
