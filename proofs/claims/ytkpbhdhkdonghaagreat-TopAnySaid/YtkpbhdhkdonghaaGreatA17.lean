/-
  Part 17 of the proof.
-/
import Derived.Lib.AppendZerosOnto
import Derived.Test.YtkpbhdhkdonghaaGreatA03
set_option linter.all false
namespace Go.Proofs.YtkpbhdhkdonghaaGreat
open Go Go.RowKit
section
variable {P:Program} {w:World}
theorem tu {base:Nat} {e:TypeId} {xs news:L_} {z:Value} {n k old:Nat} (hb:base<=w.heap.size) (hx:xs.length=n) (hn:news.length=k) (h63:n+k<=maxLen) (row:Option Nat) :
  (w.drew.alloc (.cells (xs.toArray++news.toArray++Builtin.zeroCells #[z] (grownCap w (n+k) old e - (n+k))) e)).ownsRow base e 1 (.slice (some ⟨w.heap.size,0,none⟩) (n+k) (grownCap w (n+k) old e)) (n+k) (xs++news) /\
   w.grownBy (w.drew.alloc (.cells (xs.toArray++news.toArray++Builtin.zeroCells #[z] (grownCap w (n+k) old e - (n+k))) e)) row:=by
 have hge:=grownCap_ge w (n+k) old e;have hl:(xs++news).length=n+k:=by rw [List.length_append,hx,hn]
 refine ⟨⟨by rw [hl];omega,.inr ⟨w.heap.size,_,_,rfl,hb,heap_alloc_new w.drew _,hge,grownCap_le_maxLen w (n+k) old e h63,?_,?_⟩⟩,⟨rfl,rfl,rfl,by simp,fun j hj _=>Below.heap_alloc w.drew _ j hj⟩⟩
 ·simp [size_zeroCells,hx,hn];omega
 ·simp only [Array.toList_append,l_a,Nat.mul_one];rw [<- l_a,<- hl];exact List.take_left
variable {ops:O_} {rest:Q_} {o:Oper} {a:Act} {w0:World} {Q:Exit->P_} {rs:Rws} {ss:List Sl}
end
end Go.Proofs.YtkpbhdhkdonghaaGreat
