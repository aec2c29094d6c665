/-
  Part 2 of the proof.
-/
import Derived.OrdersHeld
import Derived.RegionTactic
import Derived.Test.YtkpbhdhkdonghaaGreatE01
set_option linter.all false
namespace Go.Proofs.YtkpbhdhkdonghaaGreat
open Go Go.RowKit
variable {a:Act} {l:List Oper} {i id:Nat} {o:Oper} {w w':World} {S:World->Prop}
section
variable {P:Program} {ops:Array Oper} {Q:Exit->Act->World->Prop}
theorem Gz {md:Region.Mode} {S S':World->Prop} (hs:∀ W,S' W->S W):∀ (fuel:Nat) (listed:Array Bool) (a:Act) (w:World),wpAnyH P md ops Q S' fuel listed a w->wpAnyH P md ops Q S fuel listed a w
|0,_,_,_,h=>h
|fuel+1,_,_,_,h=>⟨h.1,fun i hi=>wpOp_mono (fun a' w' h'=>⟨hs _ h'.1,Gz hs fuel _ a' w' h'.2⟩) (h.2 i hi)⟩
def RU (ops:Array Oper):Array Bool->List (Nat × Bool)->Bool
|listed,[]=>(Region.ready .any ops listed).isEmpty
|listed,(i,true)::r=>Region.free .any ops listed i && (Region.ready .any ops listed).contains i && RU ops (listed.setIfInBounds i true) r
|listed,(i,false)::r=>(Region.ready .any ops listed == [i]) && RU ops (listed.setIfInBounds i true) r
def Ej (P:Program) (ops:Array Oper) (Q:Exit->Act->World->Prop):List (Nat × Bool)->(World->Prop)->Act->World->Prop
|[],_,a,w=>Q .normal a w
|(i,true)::r,S,a,w=>∃ o v,ops[i]?=some o/\YieldsIf P ops S o v a/\Ej P ops Q r S (a.put o.dst v) w
|(i,false)::r,S,a,w=>wpOp P ops Q i (fun a' w'=>∃ S':World->Prop,(∀ W,S' W->S W)/\S' w'/\Ej P ops Q r S' a' w') a w
theorem Kw (hs:Region.noSelect ops=true) (hQ:∀ c a d v w,Q (.panic c) (a.put d v) w->Q (.panic c) a w):∀ (r:List (Nat × Bool)) (S:World->Prop) (listed:Array Bool) (a:Act) (w:World),
  RU ops listed r=true->S w->Ej P ops Q r S a w->wpAnyH P .any ops Q S r.length listed a w
|[],_,_,_,_,hB,_,h=>wpAnyH_done (by simpa [RU] using hB) h 0
|(i,true)::r,S,listed,a,w,hB,hS,h=>by
  simp only [RU,Bool.and_eq_true] at hB
  obtain ⟨o,v,ho,hy,h⟩:=h
  exact wpAnyH_take ho hs hB.1.1 hB.1.2 (fun c a w=>hQ c a o.dst v w) hy hS (Kw hs hQ r S _ _ _ hB.2 hS h)
|(i,false)::r,S,listed,a,w,hB,hS,h=>by
  simp only [RU,Bool.and_eq_true,beq_iff_eq] at hB
  refine wpAnyH_all hB.1 (by simp) fun j hj=>?_
  obtain rfl:=List.mem_singleton.1 hj
  refine wpOp_mono ?_ h
  rintro a' w' ⟨S',h1,h2,h3⟩
  exact ⟨h1 _ h2,Gz h1 _ _ _ _ (Kw hs hQ r S' _ _ _ hB.2 h2 h3)⟩
theorem D7 (r:List (Nat × Bool)) (S:World->Prop) (hm:P.follows .mixedOrders=true) (hs:Region.noSelect l.toArray=true) (hlen:r.length=l.toArray.size)
  (hB:RU l.toArray (Array.replicate l.toArray.size false) r=true) (hQ:∀ c a d v w,Q (.panic c) (a.put d v) w->Q (.panic c) a w) (hS:S { w with drawn:=w.drawn+1 })
  (h:Ej P l.toArray Q r S a { w with drawn:=w.drawn+1 }):(Code.region id l.toArray true).wp P Q a w :=
 wp_region_held hm (by have H:=Kw hs hQ r S _ a _ hB hS h;rw [hlen] at H;exact H)
theorem IY (h:Q .normal a w):Ej P ops Q [] S a w:=h
theorem NZ {r:List (Nat × Bool)} {v:Value} (ho:ops[i]?=some o) (hw:Region.wanted o (yielded ops a.tmps)=true)
  (hrun:∀ W,S W->(execOp a.eval o).run P W=.ok (.value v) W) (h:Ej P ops Q r S (a.put o.dst v) w):Ej P ops Q ((i,true)::r) S a w :=
 ⟨o,v,ho,.inl ⟨hw,hrun⟩,h⟩
theorem WY {r:List (Nat × Bool)} (ho:ops[i]?=some o) (hw:Region.wanted o (yielded ops a.tmps)=true)
  (h:∀ K:Act->World->Prop,(∀ a' w',(∃ S':World->Prop,(∀ W,S' W->S W)/\S' w'/\Ej P ops Q r S' a' w')->K a' w')->o.wp P a w K Q):Ej P ops Q ((i,false)::r) S a w:=by
 unfold Ej wpOp
 simp only [ho,hw,if_true]
 exact .inl (h _ fun _ _ h=>h)
theorem A07 {r:List (Nat × Bool)} {v:Value} (ho:ops[i]?=some o) (hw:Region.wanted o (yielded ops a.tmps)=true)
  (hrun:(execOp a.eval o).run P w=.ok (.value v) w') (hS:S w') (h:Ej P ops Q r S (a.put o.dst v) w'):Ej P ops Q ((i,false)::r) S a w :=
 WY ho hw fun K hK=>by unfold Oper.wp;rw [hrun];exact hK _ _ ⟨S,fun _ h=>h,hS,h⟩
theorem lS {r:List (Nat × Bool)} (ho:ops[i]?=some o) (hw:Region.wanted o (yielded ops a.tmps)=true)
  (hrun:(execOp a.eval o).run P w=.ok .skip w') (hS:S w') (h:Ej P ops Q r S (a.put o.dst undef) w'):Ej P ops Q ((i,false)::r) S a w :=
 WY ho hw fun K hK=>by unfold Oper.wp;rw [hrun];exact hK _ _ ⟨S,fun _ h=>h,hS,h⟩
end
end Go.Proofs.YtkpbhdhkdonghaaGreat
