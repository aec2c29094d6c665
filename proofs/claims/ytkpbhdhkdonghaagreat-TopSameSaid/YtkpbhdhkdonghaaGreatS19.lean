/- Part 19 of the proof. -/
import Derived.Test.YtkpbhdhkdonghaaGreatS11
import Derived.Test.YtkpbhdhkdonghaaGreatS18
set_option linter.all false
namespace Go.Proofs.YtkpbhdhkdonghaaGreat
open Go Go.RowKit
def val:Nat->ac->Int
|_,[]=>0
|i,d::l=>(1+d)*2^i+val (i+1) l
def enc:ac->Nat->ac
|[],r=>dg r
|p::l,r=>if p=0 then enc l (r+1)else dg r++(p+1)::enc l 0
end Go.Proofs.YtkpbhdhkdonghaaGreat
