/-
  Part 51 of the proof.
-/
import Derived.Test.YtkpbhdhkdonghaaGreatD43
set_option linter.all false
namespace Go.Proofs.YtkpbhdhkdonghaaGreat
set_option maxRecDepth 100000
open Go Tryz Go.RowKit
theorem qP:eF prog f12 (DG.loop J5 105 (Fa T_52) ⟨layAll .nil H_52,N_52⟩) [.slice (some ⟨5633,0,none⟩) 6 NOM,w8 3,w6 0,.bool true] 5776 [(2982,.row Jc 1),(5633,.row OA 1)]=true:=by kernel_rfl
end Go.Proofs.YtkpbhdhkdonghaaGreat
