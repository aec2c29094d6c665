/-
  Part 48 of the proof.
-/
import Derived.Test.YtkpbhdhkdonghaaGreatT44
set_option linter.all false
namespace Go.Proofs.YtkpbhdhkdonghaaGreat
open Go Go.RowKit
set_option maxRecDepth 100000 in
theorem told_24 : stChk (rounds DG loop12 105 8 (slotsT T_24) ⟨layAll .nil H_24, N_24⟩) T_32 H_32 N_32 = true := by kernel_rfl
end Go.Proofs.YtkpbhdhkdonghaaGreat
