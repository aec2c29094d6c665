/-
  Part 44 of the proof.
-/
import Derived.Test.YtkpbhdhkdonghaaGreatD43
set_option linter.all false
namespace Go.Proofs.YtkpbhdhkdonghaaGreat
set_option maxRecDepth 100000
open Go Go.RowKit
theorem A1I:Ko (rounds DG J5 105 8 (Fa T_0) ⟨layAll .nil H_0,N_0⟩) T_8 H_8 N_8=true:=by kernel_rfl
end Go.Proofs.YtkpbhdhkdonghaaGreat
