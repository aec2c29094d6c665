/-
  Part 46 of the proof.
-/
import Derived.Test.YtkpbhdhkdonghaaGreatT44
set_option linter.all false
namespace Go.Proofs.YtkpbhdhkdonghaaGreat
open Go Go.RowKit
set_option maxRecDepth 100000 in
theorem told_8 : stChk (rounds DG loop12 105 8 (slotsT T_8) ⟨layAll .nil H_8, N_8⟩) T_16 H_16 N_16 = true := by kernel_rfl
end Go.Proofs.YtkpbhdhkdonghaaGreat
