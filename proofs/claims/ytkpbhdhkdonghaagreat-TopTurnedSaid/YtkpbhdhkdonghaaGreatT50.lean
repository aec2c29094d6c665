/-
  Part 50 of the proof.
-/
import Derived.Test.YtkpbhdhkdonghaaGreatT44
set_option linter.all false
namespace Go.Proofs.YtkpbhdhkdonghaaGreat
open Go Go.RowKit
set_option maxRecDepth 100000 in
theorem told_40 : stChk (rounds DG loop12 105 8 (slotsT T_40) ⟨layAll .nil H_40, N_40⟩) T_48 H_48 N_48 = true := by kernel_rfl
end Go.Proofs.YtkpbhdhkdonghaaGreat
