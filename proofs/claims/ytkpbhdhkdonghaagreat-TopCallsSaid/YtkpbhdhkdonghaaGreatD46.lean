/-
  Part 46 of the proof.
-/
import Derived.Test.YtkpbhdhkdonghaaGreatD43
set_option linter.all false
namespace Go.Proofs.YtkpbhdhkdonghaaGreat
set_option maxRecDepth 100000
open Go Go.RowKit
theorem zq:Ko (rounds DG J5 105 8 (Fa T_16) ⟨layAll .nil H_16,N_16⟩) T_24 H_24 N_24=true:=by kernel_rfl
end Go.Proofs.YtkpbhdhkdonghaaGreat
