/- Part 36 of the proof. -/
import Derived.Test.YtkpbhdhkdonghaaGreatS34
set_option linter.all false
namespace Go.Proofs.YtkpbhdhkdonghaaGreat
open Go Go.RowKit Go.ChangeShapes Go.WideShapes Go.ChangeAt
theorem ts_closed:joinedFacts Tryz.checked.prog 4 Tryz.f4 Rows.topSameSpec Rows.topSameRow=true:=FZ
end Go.Proofs.YtkpbhdhkdonghaaGreat
