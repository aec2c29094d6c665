/-
  Part 49 of the proof.
-/
import Derived.Test.YtkpbhdhkdonghaaGreatD43
set_option linter.all false
namespace Go.Proofs.YtkpbhdhkdonghaaGreat
set_option maxRecDepth 100000
open Go Go.RowKit
theorem zl:Ko (rounds DG J5 105 8 (Fa T_40) ⟨layAll .nil H_40,N_40⟩) T_48 H_48 N_48=true:=by kernel_rfl
end Go.Proofs.YtkpbhdhkdonghaaGreat
