/- Part 2 of the proof. -/
import Derived.OrdersHeld
import Derived.Test.YtkpbhdhkdonghaaGreatS01
set_option linter.all false
namespace Go.Proofs.YtkpbhdhkdonghaaGreat
open Go Go.RowKit
section
variable{a:OA}{l:bt}{i id:Nat}{o:Oz}{w w':FC}{S:OE}
section
variable{P:O8}{ops:bl}{Q:Exit->aJ}
def Gz{md:Region.Mode}{S S':OE}(hs:∀W,S' W->S W):∀(fuel:Nat)(listed:Oc)(a:OA)(w:FC),wpAnyH P md ops Q S' fuel listed a w->wpAnyH P md ops Q S fuel listed a w
|0,_,_,_,h=>h
|fuel+1,_,_,_,h=>⟨h.1,λi hi=>iW (λa' w' h'=>⟨hs _ h'.1,Gz hs fuel _ a' w' h'.2⟩) (h.2 i hi)⟩
def RU(ops:bl):Array Bool->List (Nat×Bool)->Bool
|listed,[]=>(Region.ready .any ops listed).isEmpty
|listed,(i,true)::r=>Region.free .any ops listed i&&(Region.ready .any ops listed).contains i&&RU ops (listed.setIfInBounds i true) r
|listed,(i,false)::r=>(Region.ready .any ops listed==[i])&&RU ops (listed.setIfInBounds i true) r
def Ej(P:O8)(ops:bl)(Q:Exit->aJ):List (Nat×Bool)->(FC->Prop)->aJ
|[],_,a,w=>Q .normal a w
|(i,true)::r,S,a,w=>∃o v,ops[i]?=some o/\YieldsIf P ops S o v a/\Ej P ops Q r S (a.put o.dst v) w
|(i,false)::r,S,a,w=>wpOp P ops Q i (λa' w'=>∃S':FC->Prop,(∀W,S' W->S W)/\S' w'/\Ej P ops Q r S' a' w') a w
def Kw(hs:Region.noSelect ops=true)(hQ:∀c a d v w,Q (.panic c) (a.put d v) w->Q (.panic c) a w):∀(r:Ou)(S:OE)(listed:Oc)(a:OA)(w:FC),
  RU ops listed r=true->S w->Ej P ops Q r S a w->wpAnyH P .any ops Q S r.length listed a w
|[],_,_,_,_,hB,_,h=>wpAnyH_done (by simpa[RU]using hB) h 0
|(i,true)::r,S,listed,a,w,hB,hS,h=>by
  simp only[RU,cR]at hB;obtain⟨o,v,ho,hy,h⟩:=h;exact wpAnyH_take ho hs hB.1.1 hB.1.2 (λc a w=>hQ c a o.dst v w) hy hS (Kw hs hQ r S _ _ _ hB.2 hS h)
|(i,false)::r,S,listed,a,w,hB,hS,h=>by
  simp only[RU,cR,iI]at hB;refine wpAnyH_all hB.1 G5 λj hj=>?_;obtain rfl:=fC.1 hj;refine iW ?_ h;rintro a' w'⟨S',h1,h2,h3⟩;exact⟨h1 _ h2,Gz h1 _ _ _ _ (Kw hs hQ r S' _ _ _ hB.2 h2 h3)⟩
def D7(r:Ou)(S:OE)(hm:P.follows .mixedOrders=true)(hs:Region.noSelect l.toArray=true)(hlen:r.length=l.toArray.size)
  (hB:RU l.toArray (Array.replicate l.toArray.size false) r=true)(hQ:∀c a d v w,Q (.panic c) (a.put d v) w->Q (.panic c) a w)(hS:S {w with drawn:=w.drawn+1})
  (h:Ej P l.toArray Q r S a {w with drawn:=w.drawn+1}):(Code.region id l.toArray true).wp P Q a w:=
 wp_region_held hm (by have H:=Kw hs hQ r S _ a _ hB hS h;rw[hlen]at H;exact H)
def IY(h:Q .normal a w):Ej P ops Q [] S a w:=h
def NZ{r:Ou}{v:NY}(ho:ops[i]?=some o)(hw:MZ o ops a)
  (hrun:∀W,S W->(execOp a.eval o).run P W=.ok (.value v) W)(h:Ej P ops Q r S (a.put o.dst v) w):Ej P ops Q ((i,true)::r) S a w:=
 ⟨o,v,ho,.inl ⟨hw,hrun⟩,h⟩
def Z'{r:Ou}(ho:ops[i]?=some o)(hw:Region.wanted o (yielded ops a.tmps)=false)
  (h:Ej P ops Q r S (a.put o.dst undef) w):Ej P ops Q ((i,true)::r) S a w:=
 ⟨o,undef,ho,.inr ⟨hw,rfl⟩,h⟩
def WY{r:Ou}(ho:ops[i]?=some o)(hw:MZ o ops a)
  (h:∀K:aJ,(∀a' w',(∃S':FC->Prop,(∀W,S' W->S W)/\S' w'/\Ej P ops Q r S' a' w')->K a' w')->o.wp P a w K Q):Ej P ops Q ((i,false)::r) S a w:=by
 unfold Ej wpOp;simp only[ho,hw,fP];exact .inl (h _ λ_ _ h=>h)
def SM{r:Ou}(ho:ops[i]?=some o)(hw:Region.wanted o (yielded ops a.tmps)=false)(hS:S w)
  (h:Ej P ops Q r S (a.put o.dst undef) w):Ej P ops Q ((i,false)::r) S a w:=by
 unfold Ej wpOp;simp only[ho,hw,lU,jq];exact⟨S,λ_ h=>h,hS,h⟩
def A07{r:Ou}{v:NY}(ho:ops[i]?=some o)(hw:MZ o ops a)
  (hrun:(execOp a.eval o).run P w=.ok (.value v) w')(hS:S w')(h:Ej P ops Q r S (a.put o.dst v) w'):Ej P ops Q ((i,false)::r) S a w:=
 WY ho hw λK hK=>by unfold Oper.wp;rw[hrun];exact hK _ _ ⟨S,λ_ h=>h,hS,h⟩
def lS{r:Ou}(ho:ops[i]?=some o)(hw:MZ o ops a)
  (hrun:(execOp a.eval o).run P w=.ok .skip w')(hS:S w')(h:Ej P ops Q r S (a.put o.dst undef) w'):Ej P ops Q ((i,false)::r) S a w:=
 WY ho hw λK hK=>by unfold Oper.wp;rw[hrun];exact hK _ _ ⟨S,λ_ h=>h,hS,h⟩
end
end
end Go.Proofs.YtkpbhdhkdonghaaGreat

namespace Go.Proofs.YtkpbhdhkdonghaaGreat.Pol
open Go Go.RowKit
section
variable{P:O8}{ops:bl}{Q:Exit->aJ}
def L3(ops:bl)(SS:List b9)(L:b9->Array Bool):Bool:=
 SS.all λrem=>rem==[]||(Region.ready .any ops (L rem)==rem&&rem.all λi=>SS.contains (rem.erase i)&&((L rem).setIfInBounds i true==L (rem.erase i))&&((rem.erase i).length+1==rem.length))
def batch{SS:List b9}{L:b9->Array Bool}(hck:L3 ops SS L=true){S:OE}(inv:b9->FC->Prop)(hS:∀rem w,inv rem w->S w){a:OA}{fuel:Nat}
  (hstep:∀rem∈SS,∀i∈rem,∀w,inv rem w->wpOp P ops Q i (λa' w'=>a'=a/\inv (rem.erase i) w') a w)
  (hend:∀w,inv [] w->wpAnyH P .any ops Q S fuel (L []) a w):∀(n:Nat)(rem:b9),rem∈SS->rem.length=n->∀w,inv rem w->wpAnyH P .any ops Q S (n+fuel) (L rem) a w
|0,rem,_,hn,w,hw=>by
  obtain rfl:=l9.1 hn;rw[dA];exact hend w hw
|n+1,rem,hr,hn,w,hw=>by
  have hc:=iP.1 hck rem hr;have hne:rem≠[]:=by rintro rfl;cases hn
  simp only[qV,iI,hne,false_or,cR,zE]at hc;rw[zV];refine wpAnyH_all hc.1 hne λi hi=>?_;obtain⟨⟨h1,h2⟩,h3⟩:=hc.2 i hi;refine iW ?_ (hstep rem hr i hi w hw);rintro a' w'⟨rfl,hw'⟩;refine⟨hS _ _ hw',?_⟩;rw[h2];exact batch hck inv hS hstep hend n _ (List.contains_iff_mem.1 h1) FP w' hw'
def nh(ops:bl)(L0:Oc):Array Bool->List (Nat×Bool)->Bool
|listed,[]=>listed==L0
|listed,(k,true)::r=>Region.free .any ops listed k&&(Region.ready .any ops listed).contains k&&nh ops L0 (listed.setIfInBounds k true) r
|listed,(k,false)::r=>(Region.ready .any ops listed==[k])&&nh ops L0 (listed.setIfInBounds k true) r
def l5(P:O8)(ops:bl)(Q:Exit->aJ)(C:(FC->Prop)->aJ):List (Nat×Bool)->(FC->Prop)->aJ
|[],S,a,w=>C S a w
|(k,true)::r,S,a,w=>∃o v,ops[k]?=some o/\YieldsIf P ops S o v a/\l5 P ops Q C r S (a.put o.dst v) w
|(k,false)::r,S,a,w=>wpOp P ops Q k (λa' w'=>∃S':FC->Prop,(∀W,S' W->S W)/\S' w'/\l5 P ops Q C r S' a' w') a w
def wT(hs:Region.noSelect ops=true)(hQ:∀c a d v w,Q (.panic c) (a.put d v) w->Q (.panic c) a w){L0:Oc}{fuel:Nat}{C:(FC->Prop)->aJ}(hC:∀S a w,S w->C S a w->wpAnyH P .any ops Q S fuel L0 a w):∀(r:Ou)(S:OE)(listed:Oc)(a:OA)(w:FC),
  nh ops L0 listed r=true->S w->l5 P ops Q C r S a w->wpAnyH P .any ops Q S (r.length+fuel) listed a w
|[],S,listed,a,w,hB,hS,h=>by
  simp only[nh,iI]at hB;rw[bW,dA,hB];exact hC S a w hS h
|(k,true)::r,S,listed,a,w,hB,hS,h=>by
  simp only[nh,cR]at hB;obtain⟨o,v,ho,hy,h⟩:=h;rw[bD,zV];exact wpAnyH_take ho hs hB.1.1 hB.1.2 (λc a w=>hQ c a o.dst v w) hy hS (wT hs hQ hC r S _ _ _ hB.2 hS h)
|(k,false)::r,S,listed,a,w,hB,hS,h=>by
  simp only[nh,cR,iI]at hB;rw[bD,zV];refine wpAnyH_all hB.1 G5 λm hm=>?_;obtain rfl:=fC.1 hm;refine iW ?_ h;rintro a' w'⟨S',h1,h2,h3⟩;exact⟨h1 _ h2,Gz h1 _ _ _ _ (wT hs hQ hC r S' _ _ _ hB.2 h2 h3)⟩
def Sy(P:O8)(ops:bl)(Q:Exit->aJ)(SS:List b9)(B:b9)(r2:Ou)(S:OE)(a:OA)(w:FC):Prop:=
 ∃inv:b9->FC->Prop,(∀rem w,inv rem w->S w)/\inv B w/\(∀rem∈SS,∀i∈rem,∀w,inv rem w->wpOp P ops Q i (λa' w'=>a'=a/\inv (rem.erase i) w') a w)/\(∀w,inv [] w->Ej P ops Q r2 S a w)
def A3Q{id:Nat}{l:bt}{a:OA}{w:FC}(r:Ou)(SS:List b9)(L:b9->Array Bool)(B:b9)(r2:Ou)(S:OE)(hm:P.follows .mixedOrders=true)(hs:Region.noSelect l.toArray=true)
  (hlen:r.length+(B.length+r2.length)=l.toArray.size)(hck:L3 l.toArray SS L=true)(hBS:SS.contains B=true)(hB:nh l.toArray (L B) (Array.replicate l.toArray.size false) r=true)(hB2:RU l.toArray (L []) r2=true)
  (hQ:∀c a d v w,Q (.panic c) (a.put d v) w->Q (.panic c) a w)(hS:S {w with drawn:=w.drawn+1})
  (h:l5 P l.toArray Q (Sy P l.toArray Q SS B r2) r S a {w with drawn:=w.drawn+1}):(Code.region id l.toArray true).wp P Q a w:=by
 refine wp_region_held (S:=S) hm ?_;have H:=wT (L0:=L B) (fuel:=B.length+r2.length) hs hQ (λS a w _ hc=>?_) r S _ a _ hB hS h
 .rw[hlen]at H;exact H
 .obtain⟨inv,h1,h2,h3,h4⟩:=hc;exact batch hck inv h1 h3 (λw hw=>Kw hs hQ r2 S _ _ _ hB2 (h1 _ _ hw) (h4 w hw)) _ B (List.contains_iff_mem.1 hBS) rfl w h2
end
end Go.Proofs.YtkpbhdhkdonghaaGreat.Pol
