/-
  No cell of these rows narrows 'for every input' (looked for: loops, veiled, ifaces, maps, wideKeys, modest, calm, conditions, laid).
  DERIVED. THE GIVEN ROWS OF THIS SEAT. 6 by the template 'for every input the law returns true; each argument reads behind the call as it read before'; 0 by the template 'total and deterministic' (their statements: YtkpbhdhkdonghaaGreatTotals.lean).
  GIVEN WITH THE SEED: the statements are not yours to turn. If you find one false, say at which input.
  Laid BY PROGRAM, IN A SANDBOX (cutbox-rows.mjs): the forced cells as the released guide's own fill.sh prints them over the translation 26fab2918f979c42… (all of the seat's roots in one cut). By AI agents, Wed Nov 11 2026. No macro, syntax, notation, axiom, sorry.
-/
import Derived.Test.YtkpbhdhkdonghaaGreatChecked
import GoSem.Claim
import GoSem.ClaimJoined
import GoSem.ClaimMapViews
import Derived.JoinedTies
import Derived.KernelRfl
namespace Go.Proofs.YtkpbhdhkdonghaaGreat
/- THE CELL 'sum', in the pinned program and in every row, IS THE sha256 OF THE DUMP (.gsa) THAT YtkpbhdhkdonghaaGreatProg.lean LOADS. Nothing in Lean hashes anything: it is a label: what it is worth is what the hold of that sum in a sandbox is worth. -/
noncomputable def Tryz.pinned : Pinned := { name := "ytkpbhdhkdonghaagreat", sum := "26fab2918f979c42270e58d316f205afa05c525e0fa30d4e7082a8efdd199db5", checked := Tryz.checked }
namespace Rows
def none {H : Type} : Left H := { results := [], args := [] }

/-- 'winepresstop.TopAny': WHATEVER THE INPUT: true; the input reads as it did. -/
def topAnySpec : ChangeSpec := { name := "topAny", fn := fun _ => fun
  | [d1, d2, d3] => { results := [.lit (.bool true)], args := [d1, d2, d3] }
  | _ => none }
def topAnyRow : OpenClaim := { program := "ytkpbhdhkdonghaagreat", sum := "26fab2918f979c42270e58d316f205afa05c525e0fa30d4e7082a8efdd199db5", func := "winepress/winepresstop.TopAny", spec := "topAny", inPlace := ["internal/bytealg.IndexByte", "internal/bytealg.MakeNoZero"], unfollowed := true, recurses := true, plainKeys := false, apart := false }
def TopAnySaid : Prop := topAnyRow.holds Tryz.pinned (OpenSpec.ofChange topAnySpec)

/-- ITS FALSE NEIGHBOUR: 'it returns false'. Refute it at one input. -/
def topAnyWrong : ChangeSpec := { name := "topAny", fn := fun _ => fun
  | [d1, d2, d3] => { results := [.lit (.bool false)], args := [d1, d2, d3] }
  | _ => none }
def TopAnyWrongFalsely : Prop := topAnyRow.holds Tryz.pinned (OpenSpec.ofChange topAnyWrong)

/-- 'winepresstop.TopSame': WHATEVER THE INPUT: true; the input reads as it did. -/
def topSameSpec : ChangeSpec := { name := "topSame", fn := fun _ => fun
  | [d1, d2, d3, d4, d5, d6, d7] => { results := [.lit (.bool true)], args := [d1, d2, d3, d4, d5, d6, d7] }
  | _ => none }
def topSameRow : OpenClaim := { program := "ytkpbhdhkdonghaagreat", sum := "26fab2918f979c42270e58d316f205afa05c525e0fa30d4e7082a8efdd199db5", func := "winepress/winepresstop.TopSame", spec := "topSame", inPlace := ["internal/bytealg.IndexByte", "internal/bytealg.MakeNoZero"], unfollowed := true, recurses := true, plainKeys := false, apart := false }
def TopSameSaid : Prop := topSameRow.holds Tryz.pinned (OpenSpec.ofChange topSameSpec)

/-- ITS FALSE NEIGHBOUR: 'it returns false'. Refute it at one input. -/
def topSameWrong : ChangeSpec := { name := "topSame", fn := fun _ => fun
  | [d1, d2, d3, d4, d5, d6, d7] => { results := [.lit (.bool false)], args := [d1, d2, d3, d4, d5, d6, d7] }
  | _ => none }
def TopSameWrongFalsely : Prop := topSameRow.holds Tryz.pinned (OpenSpec.ofChange topSameWrong)

/-- 'winepresstop.TopCalls': WHATEVER THE INPUT: true; the input reads as it did. -/
def topCallsSpec : ChangeSpec := { name := "topCalls", fn := fun _ => fun
  | [d1, d2, d3] => { results := [.lit (.bool true)], args := [d1, d2, d3] }
  | _ => none }
def topCallsRow : OpenClaim := { program := "ytkpbhdhkdonghaagreat", sum := "26fab2918f979c42270e58d316f205afa05c525e0fa30d4e7082a8efdd199db5", func := "winepress/winepresstop.TopCalls", spec := "topCalls", inPlace := ["internal/bytealg.IndexByte", "internal/bytealg.MakeNoZero"], unfollowed := true, recurses := true, plainKeys := false, apart := false }
def TopCallsSaid : Prop := topCallsRow.holds Tryz.pinned (OpenSpec.ofChange topCallsSpec)

/-- ITS FALSE NEIGHBOUR: 'it returns false'. Refute it at one input. -/
def topCallsWrong : ChangeSpec := { name := "topCalls", fn := fun _ => fun
  | [d1, d2, d3] => { results := [.lit (.bool false)], args := [d1, d2, d3] }
  | _ => none }
def TopCallsWrongFalsely : Prop := topCallsRow.holds Tryz.pinned (OpenSpec.ofChange topCallsWrong)

/-- 'winepresstop.TopInverse': WHATEVER THE INPUT: true; the input reads as it did. -/
def topInverseSpec : ChangeSpec := { name := "topInverse", fn := fun _ => fun
  | [d1, d2, d3] => { results := [.lit (.bool true)], args := [d1, d2, d3] }
  | _ => none }
def topInverseRow : OpenClaim := { program := "ytkpbhdhkdonghaagreat", sum := "26fab2918f979c42270e58d316f205afa05c525e0fa30d4e7082a8efdd199db5", func := "winepress/winepresstop.TopInverse", spec := "topInverse", inPlace := ["internal/bytealg.IndexByte", "internal/bytealg.MakeNoZero"], unfollowed := true, recurses := true, plainKeys := false, apart := false }
def TopInverseSaid : Prop := topInverseRow.holds Tryz.pinned (OpenSpec.ofChange topInverseSpec)

/-- ITS FALSE NEIGHBOUR: 'it returns false'. Refute it at one input. -/
def topInverseWrong : ChangeSpec := { name := "topInverse", fn := fun _ => fun
  | [d1, d2, d3] => { results := [.lit (.bool false)], args := [d1, d2, d3] }
  | _ => none }
def TopInverseWrongFalsely : Prop := topInverseRow.holds Tryz.pinned (OpenSpec.ofChange topInverseWrong)

/-- 'winepresstop.TopTurned': WHATEVER THE INPUT: true; the input reads as it did. -/
def topTurnedSpec : ChangeSpec := { name := "topTurned", fn := fun _ => fun
  | [d1, d2, d3] => { results := [.lit (.bool true)], args := [d1, d2, d3] }
  | _ => none }
def topTurnedRow : OpenClaim := { program := "ytkpbhdhkdonghaagreat", sum := "26fab2918f979c42270e58d316f205afa05c525e0fa30d4e7082a8efdd199db5", func := "winepress/winepresstop.TopTurned", spec := "topTurned", inPlace := ["internal/bytealg.IndexByte", "internal/bytealg.MakeNoZero"], unfollowed := true, recurses := true, plainKeys := false, apart := false }
def TopTurnedSaid : Prop := topTurnedRow.holds Tryz.pinned (OpenSpec.ofChange topTurnedSpec)

/-- ITS FALSE NEIGHBOUR: 'it returns false'. Refute it at one input. -/
def topTurnedWrong : ChangeSpec := { name := "topTurned", fn := fun _ => fun
  | [d1, d2, d3] => { results := [.lit (.bool false)], args := [d1, d2, d3] }
  | _ => none }
def TopTurnedWrongFalsely : Prop := topTurnedRow.holds Tryz.pinned (OpenSpec.ofChange topTurnedWrong)

/-- 'winepresstop.TopEvents': WHATEVER THE INPUT: true; the input reads as it did. -/
def topEventsSpec : ChangeSpec := { name := "topEvents", fn := fun _ => fun
  | [d] => { results := [.lit (.bool true)], args := [d] }
  | _ => none }
def topEventsRow : OpenClaim := { program := "ytkpbhdhkdonghaagreat", sum := "26fab2918f979c42270e58d316f205afa05c525e0fa30d4e7082a8efdd199db5", func := "winepress/winepresstop.TopEvents", spec := "topEvents", inPlace := ["internal/bytealg.IndexByte", "internal/bytealg.MakeNoZero"], unfollowed := true, recurses := true, plainKeys := false, apart := false }
def TopEventsSaid : Prop := topEventsRow.holds Tryz.pinned (OpenSpec.ofChange topEventsSpec)

/-- ITS FALSE NEIGHBOUR: 'it returns false'. Refute it at one input. -/
def topEventsWrong : ChangeSpec := { name := "topEvents", fn := fun _ => fun
  | [d] => { results := [.lit (.bool false)], args := [d] }
  | _ => none }
def TopEventsWrongFalsely : Prop := topEventsRow.holds Tryz.pinned (OpenSpec.ofChange topEventsWrong)

/- THE SECOND FORM. 'bulk': how many values and letters a reading holds, each counted each time it is reached (what is shared counts as often as it is met; a slice's spare places count too). A statement '..UptoSaid' is the law's where the arguments, and the package variables that the reading takes, are together of bulk at most 1048576: NARROWER than '..Said'. Prove '..Said' where nothing that the law and all that it calls make is longer than what came in: it says more and counts as full. Else prove '..UptoSaid'. A law counts once. -/
mutual
def uptoBulk {H : Type} : DataW H → Nat
  | .lit (.string bytes) => bytes.length + 1
  | .lit _ => 1
  | .nil => 1
  | .ptr d => uptoBulk d + 1
  | .slice elems spare => uptoBulkAll elems + uptoBulkAll spare + 1
  | .agg parts => uptoBulkAll parts + 1
  | .iface _ d => uptoBulk d + 1
  | .map entries => uptoBulkEntries entries + 1
  | .held _ => 1
def uptoBulkAll {H : Type} : List (DataW H) → Nat
  | [] => 0
  | d :: r => uptoBulk d + uptoBulkAll r
def uptoBulkEntries {H : Type} : List (Lit × DataW H) → Nat
  | [] => 0
  | x :: r => uptoBulkEntry x + uptoBulkEntries r
def uptoBulkEntry {H : Type} : Lit × DataW H → Nat
  | (.string bytes, d) => bytes.length + uptoBulk d + 1
  | (_, d) => uptoBulk d + 1
 end
def uptoSmall : (H : Type) → List (DataW H) → Bool := fun _ ds => decide (uptoBulkAll ds ≤ 1048576)
def OpenSpec.upto (s : _root_.Go.ChangeSpec) : _root_.Go.OpenSpec := { _root_.Go.OpenSpec.ofChange s with cond := some uptoSmall }

/-- 'winepresstop.TopAny', WHERE WHAT IT READS IS OF BULK AT MOST 1048576: true; the input reads as it did. -/
def topAnyUptoRow : OpenClaim := { program := "ytkpbhdhkdonghaagreat", sum := "26fab2918f979c42270e58d316f205afa05c525e0fa30d4e7082a8efdd199db5", func := "winepress/winepresstop.TopAny", spec := "topAny", inPlace := ["internal/bytealg.IndexByte", "internal/bytealg.MakeNoZero"], unfollowed := true, recurses := true, plainKeys := false, apart := false, narrowed := true }
def TopAnyUptoSaid : Prop := topAnyUptoRow.holds Tryz.pinned (OpenSpec.upto topAnySpec)

/-- 'winepresstop.TopSame', WHERE WHAT IT READS IS OF BULK AT MOST 1048576: true; the input reads as it did. -/
def topSameUptoRow : OpenClaim := { program := "ytkpbhdhkdonghaagreat", sum := "26fab2918f979c42270e58d316f205afa05c525e0fa30d4e7082a8efdd199db5", func := "winepress/winepresstop.TopSame", spec := "topSame", inPlace := ["internal/bytealg.IndexByte", "internal/bytealg.MakeNoZero"], unfollowed := true, recurses := true, plainKeys := false, apart := false, narrowed := true }
def TopSameUptoSaid : Prop := topSameUptoRow.holds Tryz.pinned (OpenSpec.upto topSameSpec)

/-- 'winepresstop.TopCalls', WHERE WHAT IT READS IS OF BULK AT MOST 1048576: true; the input reads as it did. -/
def topCallsUptoRow : OpenClaim := { program := "ytkpbhdhkdonghaagreat", sum := "26fab2918f979c42270e58d316f205afa05c525e0fa30d4e7082a8efdd199db5", func := "winepress/winepresstop.TopCalls", spec := "topCalls", inPlace := ["internal/bytealg.IndexByte", "internal/bytealg.MakeNoZero"], unfollowed := true, recurses := true, plainKeys := false, apart := false, narrowed := true }
def TopCallsUptoSaid : Prop := topCallsUptoRow.holds Tryz.pinned (OpenSpec.upto topCallsSpec)

/-- 'winepresstop.TopInverse', WHERE WHAT IT READS IS OF BULK AT MOST 1048576: true; the input reads as it did. -/
def topInverseUptoRow : OpenClaim := { program := "ytkpbhdhkdonghaagreat", sum := "26fab2918f979c42270e58d316f205afa05c525e0fa30d4e7082a8efdd199db5", func := "winepress/winepresstop.TopInverse", spec := "topInverse", inPlace := ["internal/bytealg.IndexByte", "internal/bytealg.MakeNoZero"], unfollowed := true, recurses := true, plainKeys := false, apart := false, narrowed := true }
def TopInverseUptoSaid : Prop := topInverseUptoRow.holds Tryz.pinned (OpenSpec.upto topInverseSpec)

/-- 'winepresstop.TopTurned', WHERE WHAT IT READS IS OF BULK AT MOST 1048576: true; the input reads as it did. -/
def topTurnedUptoRow : OpenClaim := { program := "ytkpbhdhkdonghaagreat", sum := "26fab2918f979c42270e58d316f205afa05c525e0fa30d4e7082a8efdd199db5", func := "winepress/winepresstop.TopTurned", spec := "topTurned", inPlace := ["internal/bytealg.IndexByte", "internal/bytealg.MakeNoZero"], unfollowed := true, recurses := true, plainKeys := false, apart := false, narrowed := true }
def TopTurnedUptoSaid : Prop := topTurnedUptoRow.holds Tryz.pinned (OpenSpec.upto topTurnedSpec)

/-- 'winepresstop.TopEvents', WHERE WHAT IT READS IS OF BULK AT MOST 1048576: true; the input reads as it did. -/
def topEventsUptoRow : OpenClaim := { program := "ytkpbhdhkdonghaagreat", sum := "26fab2918f979c42270e58d316f205afa05c525e0fa30d4e7082a8efdd199db5", func := "winepress/winepresstop.TopEvents", spec := "topEvents", inPlace := ["internal/bytealg.IndexByte", "internal/bytealg.MakeNoZero"], unfollowed := true, recurses := true, plainKeys := false, apart := false, narrowed := true }
def TopEventsUptoSaid : Prop := topEventsUptoRow.holds Tryz.pinned (OpenSpec.upto topEventsSpec)

end Rows
end Go.Proofs.YtkpbhdhkdonghaaGreat
