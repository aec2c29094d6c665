/-
  Part 45 of the proof.
-/
import Derived.Test.YtkpbhdhkdonghaaGreatD43
set_option linter.all false
namespace Go.Proofs.YtkpbhdhkdonghaaGreat
set_option maxRecDepth 100000
open Go Go.RowKit
theorem A1H:Ko (rounds DG J5 105 8 (Fa T_8) ⟨layAll .nil H_8,N_8⟩) T_16 H_16 N_16=true:=by kernel_rfl
end Go.Proofs.YtkpbhdhkdonghaaGreat
