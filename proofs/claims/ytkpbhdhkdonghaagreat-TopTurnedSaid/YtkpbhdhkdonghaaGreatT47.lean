/-
  Part 47 of the proof.
-/
import Derived.Test.YtkpbhdhkdonghaaGreatT44
set_option linter.all false
namespace Go.Proofs.YtkpbhdhkdonghaaGreat
open Go Go.RowKit
set_option maxRecDepth 100000 in
theorem told_16 : stChk (rounds DG loop12 105 8 (slotsT T_16) ⟨layAll .nil H_16, N_16⟩) T_24 H_24 N_24 = true := by kernel_rfl
end Go.Proofs.YtkpbhdhkdonghaaGreat
