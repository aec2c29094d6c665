/-
  Part 45 of the proof.
-/
import Derived.Test.YtkpbhdhkdonghaaGreatT44
set_option linter.all false
namespace Go.Proofs.YtkpbhdhkdonghaaGreat
open Go Go.RowKit
set_option maxRecDepth 100000 in
theorem told_0 : stChk (rounds DG loop12 105 8 (slotsT T_0) ⟨layAll .nil H_0, N_0⟩) T_8 H_8 N_8 = true := by kernel_rfl
end Go.Proofs.YtkpbhdhkdonghaaGreat
