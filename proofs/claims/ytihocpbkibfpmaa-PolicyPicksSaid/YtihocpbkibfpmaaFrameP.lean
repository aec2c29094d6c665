/-
  The frame's own parts for layer 23.
-/
import Derived.Test.YtihocpbkibfpmaaPolW
import Derived.Test.YtihocpbkibfpmaaRows
import Derived.WalkKit
import Derived.ProofKit
import Derived.OpenShut
import Derived.ShutString
import Derived.ChangeOld
import Derived.Below
namespace Go.Proofs.Ytihocpbkibfpmaa
open Go Go.RowKit Go.ChangeShapes Go.WideShapes Go.ChangeAt

theorem own : ownKnob Try.prog.godebug = none := by kernel_rfl
end Go.Proofs.Ytihocpbkibfpmaa
