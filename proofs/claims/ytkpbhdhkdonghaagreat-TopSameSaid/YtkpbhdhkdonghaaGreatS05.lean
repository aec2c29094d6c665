/- Part 5 of the proof. -/
import Derived.Test.YtkpbhdhkdonghaaGreatProg
import Derived.Test.YtkpbhdhkdonghaaGreatS01
set_option linter.all false
namespace Go.Proofs.YtkpbhdhkdonghaaGreat
open Go Tryz
abbrev ak:=Calls Tryz.prog
end Go.Proofs.YtkpbhdhkdonghaaGreat
