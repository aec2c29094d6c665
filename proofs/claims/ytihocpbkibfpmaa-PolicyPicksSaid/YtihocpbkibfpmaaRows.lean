/-
  No cell of these rows narrows 'for every input' (looked for: loops, veiled, ifaces, maps, wideKeys, modest, calm, conditions, laid).
  DERIVED. THE GIVEN ROWS OF THIS SEAT. 4 by the template 'for every input the law returns true; each argument reads behind the call as it read before'; 0 by the template 'total and deterministic' (their statements: YtihocpbkibfpmaaTotals.lean).
  GIVEN WITH THE SEED: the statements are not yours to turn. If you find one false, say at which input.
  Laid BY PROGRAM, IN A SANDBOX (cutbox-rows.mjs): the forced cells as the released guide's own fill.sh prints them over the translation a3a4890124c03b58… (all of the seat's roots in one cut). By AI agents, Wed Nov 11 2026. No macro, syntax, notation, axiom, sorry.
-/
import Derived.Test.YtihocpbkibfpmaaChecked
import GoSem.Claim
import GoSem.ClaimJoined
import GoSem.ClaimMapViews
import Derived.JoinedTies
import Derived.KernelRfl
namespace Go.Proofs.Ytihocpbkibfpmaa
/- THE CELL 'sum', in the pinned program and in every row, IS THE sha256 OF THE DUMP (.gsa) THAT YtihocpbkibfpmaaProg.lean LOADS. Nothing in Lean hashes anything: it is a label: what it is worth is what the hold of that sum in a sandbox is worth. -/
noncomputable def Try.pinned : Pinned := { name := "ytihocpbkibfpmaa", sum := "a3a4890124c03b58f7d9d2b4f458d7f56595bb2c2764f8a38cfd5948dae64d89", checked := Try.checked }
namespace Rows
def none {H : Type} : Left H := { results := [], args := [] }

/-- 'winepresslaw23.PolicyMatches': WHATEVER THE INPUT: true; the input reads as it did. -/
def policyMatchesSpec : ChangeSpec := { name := "policyMatches", fn := fun _ => fun
  | [d1, d2, d3, d4] => { results := [.lit (.bool true)], args := [d1, d2, d3, d4] }
  | _ => none }
def policyMatchesRow : OpenClaim := { program := "ytihocpbkibfpmaa", sum := "a3a4890124c03b58f7d9d2b4f458d7f56595bb2c2764f8a38cfd5948dae64d89", func := "winepress/winepresslaw23.PolicyMatches", spec := "policyMatches", unfollowed := true, recurses := true, plainKeys := false, apart := false }
def PolicyMatchesSaid : Prop := policyMatchesRow.holds Try.pinned (OpenSpec.ofChange policyMatchesSpec)

/-- ITS FALSE NEIGHBOUR: 'it returns false'. Refute it at one input. -/
def policyMatchesWrong : ChangeSpec := { name := "policyMatches", fn := fun _ => fun
  | [d1, d2, d3, d4] => { results := [.lit (.bool false)], args := [d1, d2, d3, d4] }
  | _ => none }
def PolicyMatchesWrongFalsely : Prop := policyMatchesRow.holds Try.pinned (OpenSpec.ofChange policyMatchesWrong)

/-- 'winepresslaw23.PolicyPicks': WHATEVER THE INPUT: true; the input reads as it did. -/
def policyPicksSpec : ChangeSpec := { name := "policyPicks", fn := fun _ => fun
  | [d1, d2, d3, d4] => { results := [.lit (.bool true)], args := [d1, d2, d3, d4] }
  | _ => none }
def policyPicksRow : OpenClaim := { program := "ytihocpbkibfpmaa", sum := "a3a4890124c03b58f7d9d2b4f458d7f56595bb2c2764f8a38cfd5948dae64d89", func := "winepress/winepresslaw23.PolicyPicks", spec := "policyPicks", unfollowed := true, recurses := true, plainKeys := false, apart := false }
def PolicyPicksSaid : Prop := policyPicksRow.holds Try.pinned (OpenSpec.ofChange policyPicksSpec)

/-- ITS FALSE NEIGHBOUR: 'it returns false'. Refute it at one input. -/
def policyPicksWrong : ChangeSpec := { name := "policyPicks", fn := fun _ => fun
  | [d1, d2, d3, d4] => { results := [.lit (.bool false)], args := [d1, d2, d3, d4] }
  | _ => none }
def PolicyPicksWrongFalsely : Prop := policyPicksRow.holds Try.pinned (OpenSpec.ofChange policyPicksWrong)

/-- 'winepresslaw23.PolicyLayouts': WHATEVER THE INPUT: true; the input reads as it did. -/
def policyLayoutsSpec : ChangeSpec := { name := "policyLayouts", fn := fun _ => fun
  | [d1, d2] => { results := [.lit (.bool true)], args := [d1, d2] }
  | _ => none }
def policyLayoutsRow : OpenClaim := { program := "ytihocpbkibfpmaa", sum := "a3a4890124c03b58f7d9d2b4f458d7f56595bb2c2764f8a38cfd5948dae64d89", func := "winepress/winepresslaw23.PolicyLayouts", spec := "policyLayouts", unfollowed := true, recurses := true, plainKeys := false, apart := false }
def PolicyLayoutsSaid : Prop := policyLayoutsRow.holds Try.pinned (OpenSpec.ofChange policyLayoutsSpec)

/-- ITS FALSE NEIGHBOUR: 'it returns false'. Refute it at one input. -/
def policyLayoutsWrong : ChangeSpec := { name := "policyLayouts", fn := fun _ => fun
  | [d1, d2] => { results := [.lit (.bool false)], args := [d1, d2] }
  | _ => none }
def PolicyLayoutsWrongFalsely : Prop := policyLayoutsRow.holds Try.pinned (OpenSpec.ofChange policyLayoutsWrong)

/-- 'winepresslaw23.PolicyBound': WHATEVER THE INPUT: true; the input reads as it did. -/
def policyBoundSpec : ChangeSpec := { name := "policyBound", fn := fun _ => fun
  | [d1, d2, d3] => { results := [.lit (.bool true)], args := [d1, d2, d3] }
  | _ => none }
def policyBoundRow : OpenClaim := { program := "ytihocpbkibfpmaa", sum := "a3a4890124c03b58f7d9d2b4f458d7f56595bb2c2764f8a38cfd5948dae64d89", func := "winepress/winepresslaw23.PolicyBound", spec := "policyBound", unfollowed := true, recurses := true, plainKeys := false, apart := false }
def PolicyBoundSaid : Prop := policyBoundRow.holds Try.pinned (OpenSpec.ofChange policyBoundSpec)

/-- ITS FALSE NEIGHBOUR: 'it returns false'. Refute it at one input. -/
def policyBoundWrong : ChangeSpec := { name := "policyBound", fn := fun _ => fun
  | [d1, d2, d3] => { results := [.lit (.bool false)], args := [d1, d2, d3] }
  | _ => none }
def PolicyBoundWrongFalsely : Prop := policyBoundRow.holds Try.pinned (OpenSpec.ofChange policyBoundWrong)

/- THE SECOND FORM. 'bulk': how many values and letters a reading holds, each counted each time it is reached (what is shared counts as often as it is met; a slice's spare places count too). A statement '..UptoSaid' is the law's where the arguments, and the package variables that the reading takes, are together of bulk at most 1048576: NARROWER than '..Said'. Prove '..Said' where nothing that the law and all that it calls make is longer than what came in: it says more and counts as full. Else prove '..UptoSaid'. A law counts once. -/
mutual
def uptoBulk {H : Type} : DataW H → Nat
  | .lit (.string bytes) => bytes.length + 1
  | .lit _ => 1
  | .nil => 1
  | .ptr d => uptoBulk d + 1
  | .slice elems spare => uptoBulkAll elems + uptoBulkAll spare + 1
  | .agg parts => uptoBulkAll parts + 1
  | .iface _ d => uptoBulk d + 1
  | .map entries => uptoBulkEntries entries + 1
  | .held _ => 1
def uptoBulkAll {H : Type} : List (DataW H) → Nat
  | [] => 0
  | d :: r => uptoBulk d + uptoBulkAll r
def uptoBulkEntries {H : Type} : List (Lit × DataW H) → Nat
  | [] => 0
  | x :: r => uptoBulkEntry x + uptoBulkEntries r
def uptoBulkEntry {H : Type} : Lit × DataW H → Nat
  | (.string bytes, d) => bytes.length + uptoBulk d + 1
  | (_, d) => uptoBulk d + 1
 end
def uptoSmall : (H : Type) → List (DataW H) → Bool := fun _ ds => decide (uptoBulkAll ds ≤ 1048576)
def OpenSpec.upto (s : _root_.Go.ChangeSpec) : _root_.Go.OpenSpec := { _root_.Go.OpenSpec.ofChange s with cond := some uptoSmall }

/-- 'winepresslaw23.PolicyMatches', WHERE WHAT IT READS IS OF BULK AT MOST 1048576: true; the input reads as it did. -/
def policyMatchesUptoRow : OpenClaim := { program := "ytihocpbkibfpmaa", sum := "a3a4890124c03b58f7d9d2b4f458d7f56595bb2c2764f8a38cfd5948dae64d89", func := "winepress/winepresslaw23.PolicyMatches", spec := "policyMatches", unfollowed := true, recurses := true, plainKeys := false, apart := false, narrowed := true }
def PolicyMatchesUptoSaid : Prop := policyMatchesUptoRow.holds Try.pinned (OpenSpec.upto policyMatchesSpec)

/-- 'winepresslaw23.PolicyPicks', WHERE WHAT IT READS IS OF BULK AT MOST 1048576: true; the input reads as it did. -/
def policyPicksUptoRow : OpenClaim := { program := "ytihocpbkibfpmaa", sum := "a3a4890124c03b58f7d9d2b4f458d7f56595bb2c2764f8a38cfd5948dae64d89", func := "winepress/winepresslaw23.PolicyPicks", spec := "policyPicks", unfollowed := true, recurses := true, plainKeys := false, apart := false, narrowed := true }
def PolicyPicksUptoSaid : Prop := policyPicksUptoRow.holds Try.pinned (OpenSpec.upto policyPicksSpec)

/-- 'winepresslaw23.PolicyLayouts', WHERE WHAT IT READS IS OF BULK AT MOST 1048576: true; the input reads as it did. -/
def policyLayoutsUptoRow : OpenClaim := { program := "ytihocpbkibfpmaa", sum := "a3a4890124c03b58f7d9d2b4f458d7f56595bb2c2764f8a38cfd5948dae64d89", func := "winepress/winepresslaw23.PolicyLayouts", spec := "policyLayouts", unfollowed := true, recurses := true, plainKeys := false, apart := false, narrowed := true }
def PolicyLayoutsUptoSaid : Prop := policyLayoutsUptoRow.holds Try.pinned (OpenSpec.upto policyLayoutsSpec)

/-- 'winepresslaw23.PolicyBound', WHERE WHAT IT READS IS OF BULK AT MOST 1048576: true; the input reads as it did. -/
def policyBoundUptoRow : OpenClaim := { program := "ytihocpbkibfpmaa", sum := "a3a4890124c03b58f7d9d2b4f458d7f56595bb2c2764f8a38cfd5948dae64d89", func := "winepress/winepresslaw23.PolicyBound", spec := "policyBound", unfollowed := true, recurses := true, plainKeys := false, apart := false, narrowed := true }
def PolicyBoundUptoSaid : Prop := policyBoundUptoRow.holds Try.pinned (OpenSpec.upto policyBoundSpec)

end Rows
end Go.Proofs.Ytihocpbkibfpmaa
