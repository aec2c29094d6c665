/-
  Part 48 of the proof.
-/
import Derived.Test.YtkpbhdhkdonghaaGreatD43
set_option linter.all false
namespace Go.Proofs.YtkpbhdhkdonghaaGreat
set_option maxRecDepth 100000
open Go Go.RowKit
theorem zn:Ko (rounds DG J5 105 8 (Fa T_32) ⟨layAll .nil H_32,N_32⟩) T_40 H_40 N_40=true:=by kernel_rfl
end Go.Proofs.YtkpbhdhkdonghaaGreat
