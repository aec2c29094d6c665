/-
  Part 50 of the proof.
-/
import Derived.Test.YtkpbhdhkdonghaaGreatD43
set_option linter.all false
namespace Go.Proofs.YtkpbhdhkdonghaaGreat
set_option maxRecDepth 100000
open Go Go.RowKit
theorem zk:Ko (rounds DG J5 105 4 (Fa T_48) ⟨layAll .nil H_48,N_48⟩) T_52 H_52 N_52=true:=by kernel_rfl
end Go.Proofs.YtkpbhdhkdonghaaGreat
