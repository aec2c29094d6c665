/-
  Part 51 of the proof.
-/
import Derived.Test.YtkpbhdhkdonghaaGreatT44
set_option linter.all false
namespace Go.Proofs.YtkpbhdhkdonghaaGreat
open Go Go.RowKit
set_option maxRecDepth 100000 in
theorem told_48 : stChk (rounds DG loop12 105 4 (slotsT T_48) ⟨layAll .nil H_48, N_48⟩) T_52 H_52 N_52 = true := by kernel_rfl
end Go.Proofs.YtkpbhdhkdonghaaGreat
