/- Part 18 of the proof. -/
import Derived.Lib.AppendZerosOnto
import Derived.Test.YtkpbhdhkdonghaaGreatS03
set_option linter.all false
namespace Go.Proofs.YtkpbhdhkdonghaaGreat
open Go Go.RowKit
section
variable{P:O8}{w:FC}
def tu{base:Nat}{e:O4}{xs news:ar}{z:NY}{n k old:Nat}(hb:base<=w.heap.size)(hx:xs.length=n)(hn:news.length=k)(h63:n+k<=maxLen)(row:Oo):
  (w.drew.alloc (.cells (xs.toArray++news.toArray++Builtin.zeroCells #[z] (grownCap w (n+k) old e-(n+k))) e)).ownsRow base e 1 (.slice (some ⟨w.heap.size,0,none⟩) (n+k) (grownCap w (n+k) old e)) (n+k) (xs++news)/\
   w.grownBy (w.drew.alloc (.cells (xs.toArray++news.toArray++Builtin.zeroCells #[z] (grownCap w (n+k) old e-(n+k))) e)) row:=by
 have hge:=xk w (n+k) old e;have hl:(xs++news).length=n+k:=by rw[aV,hx,hn]
 refine⟨⟨by rw[hl];omega,.inr ⟨w.heap.size,_,_,rfl,hb,heap_alloc_new w.drew _,hge,grownCap_le_maxLen w (n+k) old e h63,?_,?_⟩⟩,⟨rfl,rfl,rfl,G5,λj hj _=>Below.heap_alloc w.drew _ j hj⟩⟩
 .simp[tZ,hx,hn];omega
 .simp only[Array.toList_append,aI,kQ];rw[<-aI,<-hl];exact List.take_left
variable{ops:bl}{rest:bt}{o:Oz}{a:OA}{w0:FC}{Q:Exit->aJ}{rs:ae}{ss:O1}
end
end Go.Proofs.YtkpbhdhkdonghaaGreat
