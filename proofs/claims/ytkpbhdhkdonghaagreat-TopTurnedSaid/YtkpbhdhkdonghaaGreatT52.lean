/-
  Part 52 of the proof.
-/
import Derived.Test.YtkpbhdhkdonghaaGreatT44
set_option linter.all false
namespace Go.Proofs.YtkpbhdhkdonghaaGreat
open Go Go.RowKit
set_option maxRecDepth 100000 in
theorem told_end : endChk Tryz.prog Tryz.f12 (DG.loop loop12 105 (slotsT T_52) ⟨layAll .nil H_52, N_52⟩) [.slice (some ⟨5633, 0, none⟩) 6 NOM, w8 3, w6 0, .bool true] 5776 [(2982, .row strmV 1), (5633, .row bananaV 1)] = true := by kernel_rfl
end Go.Proofs.YtkpbhdhkdonghaaGreat
