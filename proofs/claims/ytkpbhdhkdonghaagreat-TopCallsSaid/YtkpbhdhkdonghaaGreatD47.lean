/-
  Part 47 of the proof.
-/
import Derived.Test.YtkpbhdhkdonghaaGreatD43
set_option linter.all false
namespace Go.Proofs.YtkpbhdhkdonghaaGreat
set_option maxRecDepth 100000
open Go Go.RowKit
theorem zo:Ko (rounds DG J5 105 8 (Fa T_24) ⟨layAll .nil H_24,N_24⟩) T_32 H_32 N_32=true:=by kernel_rfl
end Go.Proofs.YtkpbhdhkdonghaaGreat
