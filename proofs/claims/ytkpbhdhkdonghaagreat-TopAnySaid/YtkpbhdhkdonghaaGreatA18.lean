/-
  Part 18 of the proof.
-/
import Derived.Test.YtkpbhdhkdonghaaGreatA09
import Derived.Test.YtkpbhdhkdonghaaGreatA17
set_option linter.all false
namespace Go.Proofs.YtkpbhdhkdonghaaGreat
open Go Go.RowKit
def val:Nat->I_->Int
|_,[]=>0
|i,d::l=>(1+d) * 2 ^ i+val (i+1) l
def enc:I_->Nat->I_
|[],r=>dg r
|p::l,r=>if p=0 then enc l (r+1) else dg r++(p+1)::enc l 0
end Go.Proofs.YtkpbhdhkdonghaaGreat
