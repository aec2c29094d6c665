/- Part 34 of the proof. -/
import Derived.Test.YtkpbhdhkdonghaaGreatRows
import Derived.ProofKit
import Derived.OpenShut
import Derived.ShutString
import Derived.Test.YtkpbhdhkdonghaaGreatS09
set_option linter.all false
namespace Go.Proofs.YtkpbhdhkdonghaaGreat
open Go Go.RowKit Go.ChangeShapes Go.WideShapes Go.ChangeAt
theorem Frt.own:ownKnob Tryz.prog.godebug=none:=by kernel_rfl
theorem Frt.laidOut:laidOutB Tryz.prog=true:=by kernel_rfl
theorem byte_of{n:Int}(h:(Lit.int .u8 n).wf=true):0<=n/\n<256:=by
 simp[Lit.wf,IntKind.min,IntKind.max,IntKind.signed,IntKind.bits]at h;omega
end Go.Proofs.YtkpbhdhkdonghaaGreat
