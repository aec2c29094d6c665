/-
  Part 49 of the proof.
-/
import Derived.Test.YtkpbhdhkdonghaaGreatT44
set_option linter.all false
namespace Go.Proofs.YtkpbhdhkdonghaaGreat
open Go Go.RowKit
set_option maxRecDepth 100000 in
theorem told_32 : stChk (rounds DG loop12 105 8 (slotsT T_32) ⟨layAll .nil H_32, N_32⟩) T_40 H_40 N_40 = true := by kernel_rfl
end Go.Proofs.YtkpbhdhkdonghaaGreat
