/- Part 4 of the proof. -/
import Derived.Test.YtkpbhdhkdonghaaGreatS02
import Derived.Test.YtkpbhdhkdonghaaGreatS03
set_option linter.all false
namespace Go.Proofs.YtkpbhdhkdonghaaGreat
open Go Go.RowKit
section
variable{cs:ai}{g:Nat}{x y:O7}{ty:O4}{w':FC}
section
variable{P:O8}{ops:bl}{Q:Exit->aJ}{i:Nat}{r:Ou}{S:OE}{a:OA}{w w0:FC}{o:Oz}{rs:ae}{ss:O1}
def AA.below{w:FC}(h:AA w g cs)(hb:Below w.heap.size w w'):AA w' g cs:=h.of_block (hb.block g h.lt)
def a1I(ho:o.op=.alloc ty)(hz:∀w,(zeroValue ty).run P w=.ok (.agg cs) w):
  (execOp a.eval o).run P w=.ok (.value (.pointer (some ⟨w.heap.size,0,none⟩))) (w.alloc (.cells cs ty)):=Id
def Yk{j:Nat}(hm:Own w0 w rs ss)(ho:ops[i]?=some o)(hw:MZ o ops a)(hop:o.op=.store ty x y)(hx:a.eval x=.pointer g){vs:ai}(hy:a.eval y=.agg vs)
  (hi:rs[j]?=some (g,cs))(ht:Aq P ty vs.size)(hs:vs.size=cs.size)(h1:∀v∈vs,v.oneCell'=true)
  (hS:∀w',Own w0 w' (rs.set j (g,vs)) ss->S w')(h:∀w',Own w0 w' (rs.set j (g,vs)) ss->Ej P ops Q r S (a.put o.dst undef) w'):Ej P ops Q ((i,false)::r) S a w:=by
 have hrun:=Gn (P:=P) (off:=0) hop hx hy (hm.row j hi) ht rfl FP h1;rw[pY cs vs hs]at hrun;exact lS ho hw hrun (hS _ (hm.setRow j vs hi)) (h _ (hm.setRow j vs hi))
end
end
inductive OT where
|done:OT
|rd:Nat->OT->OT
|one:Nat->OT->OT
|two:Nat->OT->Nat->OT->OT
def OT.depth:OT->Nat
|.done=>0
|.rd _ t=>t.depth+1
|.one _ t=>t.depth+1
|.two _ t _ _=>t.depth+1
section
variable{P:O8}{ops:bl}{Q:Exit->aJ}
def jp(ops:bl):Array Bool->OT->Bool
|l,.done=>(Region.ready .any ops l).isEmpty
|l,.rd i t=>Region.free .any ops l i&&(Region.ready .any ops l).contains i&&jp ops (l.setIfInBounds i true) t
|l,.one i t=>(Region.ready .any ops l==[i])&&jp ops (l.setIfInBounds i true) t
|l,.two i t j u=>(Region.ready .any ops l==[i,j])&&(u.depth==t.depth)&&jp ops (l.setIfInBounds i true) t&&jp ops (l.setIfInBounds j true) u
def fi(P:O8)(ops:bl)(Q:Exit->aJ):OT->(FC->Prop)->aJ
|.done,_,a,w=>Q .normal a w
|.rd i t,S,a,w=>∃o v,ops[i]?=some o/\YieldsIf P ops S o v a/\fi P ops Q t S (a.put o.dst v) w
|.one i t,S,a,w=>wpOp P ops Q i (λa' w'=>∃S':FC->Prop,(∀W,S' W->S W)/\S' w'/\fi P ops Q t S' a' w') a w
|.two i t j u,S,a,w=>wpOp P ops Q i (λa' w'=>∃S':FC->Prop,(∀W,S' W->S W)/\S' w'/\fi P ops Q t S' a' w') a w/\wpOp P ops Q j (λa' w'=>∃S':FC->Prop,(∀W,S' W->S W)/\S' w'/\fi P ops Q u S' a' w') a w
def Jb(hs:Region.noSelect ops=true)(hQ:∀c a d v w,Q (.panic c) (a.put d v) w->Q (.panic c) a w):∀(t:OT)(S:OE)(listed:Oc)(a:OA)(w:FC),
  jp ops listed t=true->S w->fi P ops Q t S a w->wpAnyH P .any ops Q S t.depth listed a w
|.done,S,listed,a,w,hB,_,h=>wpAnyH_done (by simpa[jp]using hB) h 0
|.rd i t,S,listed,a,w,hB,hS,h=>by
  simp only[jp,cR]at hB;obtain⟨o,v,ho,hy,h⟩:=h;exact wpAnyH_take ho hs hB.1.1 hB.1.2 (λc a w=>hQ c a o.dst v w) hy hS (Jb hs hQ t S _ _ _ hB.2 hS h)
|.one i t,S,listed,a,w,hB,hS,h=>by
  simp only[jp,cR,iI]at hB;refine wpAnyH_all hB.1 G5 λj hj=>?_;obtain rfl:=fC.1 hj;refine iW ?_ h;rintro a' w'⟨S',h1,h2,h3⟩;exact⟨h1 _ h2,Gz h1 _ _ _ _ (Jb hs hQ t S' _ _ _ hB.2 h2 h3)⟩
|.two i t j u,S,listed,a,w,hB,hS,h=>by
  simp only[jp,cR,iI]at hB;refine wpAnyH_all hB.1.1.1 G5 λk hk=>?_;rcases dh.1 hk with rfl|hk
  .refine iW ?_ h.1;rintro a' w'⟨S',h1,h2,h3⟩;exact⟨h1 _ h2,Gz h1 _ _ _ _ (Jb hs hQ t S' _ _ _ hB.1.2 h2 h3)⟩
  .obtain rfl:=fC.1 hk;refine iW ?_ h.2;rintro a' w'⟨S',h1,h2,h3⟩;rw[<-hB.1.1.2];exact⟨h1 _ h2,Gz h1 _ _ _ _ (Jb hs hQ u S' _ _ _ hB.2 h2 h3)⟩
def IL{id:Nat}{l:bt}{a:OA}{w:FC}(t:OT)(S:OE)(hm:P.follows .mixedOrders=true)(hs:Region.noSelect l.toArray=true)(hlen:t.depth=l.toArray.size)
  (hB:jp l.toArray (Array.replicate l.toArray.size false) t=true)(hQ:∀c a d v w,Q (.panic c) (a.put d v) w->Q (.panic c) a w)(hS:S {w with drawn:=w.drawn+1})
  (h:fi P l.toArray Q t S a {w with drawn:=w.drawn+1}):(Code.region id l.toArray true).wp P Q a w:=
 wp_region_held hm (by have H:=Jb hs hQ t S _ a _ hB hS h;rw[hlen]at H;exact H)
variable{i:Nat}{t:OT}{S:OE}{a:OA}{w w' w0:FC}{o:Oz}{rs:ae}{ss:O1}
def XI(h:Q .normal a w):fi P ops Q .done S a w:=h
def EW{v:NY}(ho:ops.toList[i]?=some o)(hw:MZ o ops a)
  (hrun:∀W,S W->(execOp a.eval o).run P W=.ok (.value v) W)(h:fi P ops Q t S (a.put o.dst v) w):fi P ops Q (.rd i t) S a w:=
 ⟨o,v,by rw[<-cE];exact ho,.inl ⟨hw,hrun⟩,h⟩
def lT(P:O8)(ops:bl)(Q:Exit->aJ)(i:Nat)(t:OT)(S:OE)(a:OA)(w:FC):Prop:=wpOp P ops Q i (λa' w'=>∃S':FC->Prop,(∀W,S' W->S W)/\S' w'/\fi P ops Q t S' a' w') a w
def yh(h:lT P ops Q i t S a w):fi P ops Q (.one i t) S a w:=h
def tO(ho:ops.toList[i]?=some o)(hw:MZ o ops a)
  (h:∀K:aJ,(∀a' w',(∃S':FC->Prop,(∀W,S' W->S W)/\S' w'/\fi P ops Q t S' a' w')->K a' w')->o.wp P a w K Q):lT P ops Q i t S a w:=by
 have ho':ops[i]?=some o:=by rw[<-cE];exact ho
 unfold lT wpOp;simp only[ho',hw,fP];exact .inl (h _ λ_ _ h=>h)
def Ym{v:NY}(ho:ops.toList[i]?=some o)(hw:MZ o ops a)
  (hrun:(execOp a.eval o).run P w=.ok (.value v) w')(hS:S w')(h:fi P ops Q t S (a.put o.dst v) w'):lT P ops Q i t S a w:=
 tO ho hw λK hK=>by unfold Oper.wp;rw[hrun];exact hK _ _ ⟨S,λ_ h=>h,hS,h⟩
def T6(ho:ops.toList[i]?=some o)(hw:MZ o ops a)
  (hrun:(execOp a.eval o).run P w=.ok .skip w')(hS:S w')(h:fi P ops Q t S (a.put o.dst undef) w'):lT P ops Q i t S a w:=
 tO ho hw λK hK=>by unfold Oper.wp;rw[hrun];exact hK _ _ ⟨S,λ_ h=>h,hS,h⟩
end
def Own.sub{w0 w:FC}{rs rs':ae}{ss ss':O1}(h:Own w0 w rs ss)(hr:rs'.Sublist rs)(hs:ss'.Sublist ss):Own w0 w rs' ss':=by
 refine⟨⟨h.mem.below,λp hp=>h.mem.own p (hr.subset hp),λp hp=>h.mem.rows p (hr.subset hp),h.mem.apart.sublist (hr.map _)⟩,λs hq=>h.sl s (hs.subset hq),?_⟩;exact List.Nodup.sublist ((hs.filterMap _).append (hr.map _)) h.apart
section
variable{l m:Oc}{rest:bt}{id k:Nat}{oi:Oz}
section
variable{P:O8}{ops:bl}{Q:Exit->aJ}
def Shut(ops:bl)(l:Oc):Prop:=∀m om,ops[m]?=some om->l.getD m false=true->∀e∈om.after,Region.binds .any e=true->l.getD e.on false=true
def Shut.init(n:Nat):Shut ops (Array.replicate n false):=λm om _ h=>by
 exfalso;by_cases hm:m<n
 .simp[hm]at h
 .simp[hm]at h
def Shut.set(h:Shut ops l){j:Nat}(hj:j∈Region.ready .any ops l):Shut ops (l.setIfInBounds j true):=λm om hm hl e he hb=>by
 by_cases hjm:j=m
 .subst hjm;obtain⟨_,o,ho,ha⟩:=mJ.1 hj;rw[hm]at ho;cases ho;exact uO (ha e he hb)
 .rw[gu false hjm]at hl;exact uO (h m om hm hl e he hb)
def marks(m:Oc)(o:Oz):Array Bool:=o.after.toList.foldl (λm e=>if Region.binds .any e then m.setIfInBounds e.on true else m) m
def xq(ops:bl):b9->Array Bool->Array Bool
|[],m=>m
|j::js,m=>xq ops js (if m.getD j false then(match ops[j]?with|some o=>marks m o|none=>m)else m)
def Qv(ops:bl)(k:Nat):Array Bool:=xq ops ((List.range ops.size).reverse) ((Array.replicate ops.size false).setIfInBounds k true)
def Qn{i j:Nat}(h:(m.setIfInBounds i true).getD j false=true):i=j\/m.getD j false=true:=by
 by_cases hij:i=j
 .exact .inl hij
 .rw[gu false hij]at h;exact .inr h
def YJ{l:Oc}{k:Nat}:∀(es:List Edge)(m:Oc),(∀e∈es,Region.binds .any e=true->l.getD e.on false=true)->(∀i,m.getD i false=true->i=k\/l.getD i false=true)->
  ∀i,(es.foldl (λm e=>if Region.binds .any e then m.setIfInBounds e.on true else m) m).getD i false=true->i=k\/l.getD i false=true
|[],m,_,h,i,hi=>h i hi
|e::es,m,he,h,i,hi=>by
  refine YJ es _ (λe' h'=>he e' (by simp[h'])) ?_ i hi;intro i hi;simp only at hi;split at hi
  .rename_i hb;rcases Qn hi with rfl|hi
   .exact .inr (he e G5 hb)
   .exact h i hi
  .exact h i hi
def jY{l:Oc}{k:Nat}(hl:Shut ops l)(hk:k∈Region.ready .any ops l):∀(js:b9)(m:Oc),(∀i,m.getD i false=true->i=k\/l.getD i false=true)->∀i,(xq ops js m).getD i false=true->i=k\/l.getD i false=true
|[],_,h,i,hi=>h i hi
|j::js,m,h,i,hi=>by
  refine jY hl hk js _ ?_ i hi;intro i hi;split at hi
  .rename_i hj;split at hi
   .rename_i o ho;refine YJ o.after.toList m ?_ h i hi;intro e he hb;have he':e∈o.after:=by simpa using he
    rcases h j hj with rfl|hlj
    .obtain⟨_,o',ho',ha⟩:=mJ.1 hk;rw[ho]at ho';cases ho';exact ha e he' hb
    .exact hl j o ho hlj e he' hb
   .exact h i hi
  .exact h i hi
def fV{i:Nat}(hl:Shut ops l)(hk:k∈Region.ready .any ops l)(h:(Qv ops k).getD i false=true)(hik:i≠k):l.getD i false=true:=by
 refine(jY hl hk _ _ ?_ i h).resolve_left hik;intro j hj;rcases Qn hj with rfl|hj
 .exact .inl rfl
 .exfalso;by_cases hm:j<ops.size
  .simp[hm]at hj
  .simp[hm]at hj
def Ib(P:O8)(ops:bl)(Q:Exit->aJ)(k:Nat)(S:OE):Nat->Array Bool->aJ
|0,l,a,w=>Region.ready .any ops l=[]/\Q .normal a w
|fuel+1,l,a,w=>(Region.ready .any ops l=[]->Q .normal a w)/\
  ∀i∈Region.ready .any ops l,wpOp P ops Q i (λa' w'=>((l.setIfInBounds i true).getD k false=false->S w')/\Ib P ops Q k S fuel (l.setIfInBounds i true) a' w') a w
def Rh{k:Nat}{S:OE}:∀(fuel:Nat)(l:Oc)(a:OA)(w:FC),Ib P ops Q k S fuel l a w->wpAny P .any ops Q fuel l a w
|0,_,_,_,h=>h
|fuel+1,_,_,_,h=>⟨h.1,λi hi=>iW (λa' w' h'=>Rh fuel _ a' w' h'.2) (h.2 i hi)⟩
def Qc{k k2:Nat}{S S2:OE}:∀(fuel:Nat)(l:Oc)(a:OA)(w:FC),l.getD k false=true->Ib P ops Q k2 S2 fuel l a w->Ib P ops Q k S fuel l a w
|0,_,_,_,_,h=>h
|fuel+1,l,_,_,hk,h=>⟨h.1,λi hi=>iW (λa' w' h'=>⟨λh0=>(by rw[uO hk]at h0;cases h0),Qc fuel _ a' w' (uO hk) h'.2⟩) (h.2 i hi)⟩
def IU{k:Nat}{S S':OE}(hs:∀W,S' W->S W):∀(fuel:Nat)(l:Oc)(a:OA)(w:FC),Ib P ops Q k S' fuel l a w->Ib P ops Q k S fuel l a w
|0,_,_,_,h=>h
|fuel+1,_,_,_,h=>⟨h.1,λi hi=>iW (λa' w' h'=>⟨λh0=>hs _ (h'.1 h0),IU hs fuel _ a' w' h'.2⟩) (h.2 i hi)⟩
def PF{i:Nat}{S:OE}{v:NY}(hi:ops[i]?=some oi)(hsel:∀(j:Nat)(o:Oz)cs b,ops[j]?=some o->o.op≠.select cs b)
  (hQ:∀c a w,Q (.panic c) (a.put oi.dst v) w->Q (.panic c) a w)(hik:i≠k)(hwt:∀l,Shut ops l->k∈Region.ready .any ops l->l.getD i false=true):
  ∀(fuel:Nat)(l:Oc)(a:OA)(w:FC),
   (∀j oj,ops[j]?=some oj->j≠i->l.getD j true=false->(∀e∈oj.after,Region.binds .any e=true->e.on≠i)->oi.apart ops oj=true)->
   i∈Region.ready .any ops l->YieldsIf P ops S oi v a->S w->Shut ops l->l.getD k false=false->
   Ib P ops Q k S fuel (l.setIfInBounds i true) (a.put oi.dst v) w->Ib P ops Q k S (fuel+1) l a w:=by
 intro fuel
 induction fuel with
|zero=>
  intro l a w _ hr hy hS hl hk H;refine⟨λh=>JV,λj hj=>?_⟩;by_cases hji:j=i
  .subst hji;exact hy.wpOp hi hS ⟨λ_=>hS,H⟩
  .have:=sQ hj hji;rw[H.1]at this;cases this
|succ fuel ih=>
  intro l a w hfree hr hy hS hl hk H;refine⟨λh=>JV,λj hj=>?_⟩;by_cases hji:j=i
  .subst hji;exact hy.wpOp hi hS ⟨λ_=>hS,H⟩
  .have h1:=H.2 j (sQ hj hji);obtain⟨hjun,oj,hoj,hall⟩:=mJ.1 hj
   have hi0:l.getD i false=false:=by
    exact N5
   have hnot:∀e∈oj.after,Region.binds .any e=true->e.on≠i:=λe he hb heq=>by
    have h1:=hall e he hb;rw[heq,hi0]at h1;cases h1
   have hjk:j≠k:=λe=>by
    subst e;rw[hwt l hl hj]at hi0;cases hi0
   have hk':∀x y:Nat,x≠k->(l.setIfInBounds x true).getD k false=false:=λx _ hx=>by rw[gu false hx];exact hk
   have hk2:((l.setIfInBounds i true).setIfInBounds j true).getD k false=false:=by rw[gu false hjk];exact hk' i i hik
   have h2:=wpOp_putIf hoj (hfree j oj hoj hji hjun hnot) (λcs b=>hsel i oi cs b hi) (λcs b=>hsel j oj cs b hoj) hQ hy h1
   have hfree':∀m om,ops[m]?=some om->m≠i->(l.setIfInBounds j true).getD m true=false->
     (∀e∈om.after,Region.binds .any e=true->e.on≠i)->oi.apart ops om=true:=λm om hm hmi hun hno=>by
    exact Hk
   refine iW (λa' w' h3=>?_) h2;have hS':=h3.2.1 hk2;refine⟨λ_=>hS',ih (l.setIfInBounds j true) a' w' hfree' (sQ hr (o9 hji)) h3.1 hS' (hl.set hj) (hk' j j hjk) ?_⟩;rw[F8 _ _ hji];exact h3.2.2
def A2W{i:Nat}{S:OE}{v:NY}(hi:ops[i]?=some oi)(hsel:∀(j:Nat)(o:Oz)cs b,ops[j]?=some o->o.op≠.select cs b)
  (hQ:∀c a w,Q (.panic c) (a.put oi.dst v) w->Q (.panic c) a w)(hik:i≠k):
  ∀(fuel:Nat)(l:Oc)(a:OA)(w:FC),
   (∀j oj,ops[j]?=some oj->j≠i->l.getD j true=false->(∀e∈oj.after,Region.binds .any e=true->e.on≠i)->oi.apart ops oj=true)->
   i∈Region.ready .any ops l->Yields P ops oi v a->(l.getD k false=false->S w)->
   Ib P ops Q k S fuel (l.setIfInBounds i true) (a.put oi.dst v) w->Ib P ops Q k S (fuel+1) l a w:=by
 intro fuel
 induction fuel with
|zero=>
  intro l a w _ hr hy hS H;refine⟨λh=>JV,λj hj=>?_⟩;by_cases hji:j=i
  .exact Bu
  .have:=sQ hj hji;rw[H.1]at this;cases this
|succ fuel ih=>
  intro l a w hfree hr hy hS H;refine⟨λh=>JV,λj hj=>?_⟩;by_cases hji:j=i
  .exact Bu
  .have h1:=H.2 j (sQ hj hji);obtain⟨hjun,oj,hoj,hall⟩:=mJ.1 hj
   have hi0:l.getD i false=false:=by
    exact N5
   have hnot:∀e∈oj.after,Region.binds .any e=true->e.on≠i:=λe he hb heq=>by
    have h1:=hall e he hb;rw[heq,hi0]at h1;cases h1
   have h2:=wpOp_put hoj (hfree j oj hoj hji hjun hnot) (λcs b=>hsel i oi cs b hi) (λcs b=>hsel j oj cs b hoj) hQ hy h1
   have hfree':∀m om,ops[m]?=some om->m≠i->(l.setIfInBounds j true).getD m true=false->
     (∀e∈om.after,Region.binds .any e=true->e.on≠i)->oi.apart ops om=true:=λm om hm hmi hun hno=>by
    exact Hk
   refine iW (λa' w' h3=>?_) h2
   have hS':(l.setIfInBounds j true).getD k false=false->S w':=λh=>h3.2.1 (by
    rw[F8 _ _ (o9 hji),gu false hik];exact h)
   refine⟨hS',ih (l.setIfInBounds j true) a' w' hfree' (sQ hr (o9 hji)) h3.1 hS' ?_⟩;rw[F8 _ _ hji];exact h3.2.2
inductive KT where
|done:KT
|rp:Nat->KT->KT
|rm:Nat->KT->KT
|one:Nat->KT->KT
|brk:Nat->Nat->KT->KT
|two:Nat->KT->Nat->KT->KT
def KT.depth:KT->Nat
|.done=>0
|.rp _ t=>t.depth+1
|.rm _ t=>t.depth+1
|.one _ t=>t.depth+1
|.brk _ _ t=>t.depth+1
|.two _ t _ _=>t.depth+1
def KT.am:List (Nat×Bool)->KT->KT
|[],t=>t
|(i,false)::r,t=>.rp i (KT.am r t)
|(i,true)::r,t=>.rm i (KT.am r t)
def eL(ops:bl):Nat->Array Bool->Array Bool->KT->Bool
|_,_,l,.done=>(Region.ready .any ops l).isEmpty
|k,m,l,.rp i t=>i !=k&&Region.free .any ops l i&&(Region.ready .any ops l).contains i&&eL ops k m (l.setIfInBounds i true) t
|k,m,l,.rm i t=>i !=k&&(m.getD i false||decide (ops.size<=k))&&Region.free .any ops l i&&(Region.ready .any ops l).contains i&&eL ops k m (l.setIfInBounds i true) t
|k,m,l,.one i t=>i !=k&&(Region.ready .any ops l==[i])&&eL ops k m (l.setIfInBounds i true) t
|k,_,l,.brk i k2 t=>i==k&&(Region.ready .any ops l==[i])&& !(l.setIfInBounds i true).getD k2 false&&eL ops k2 (Qv ops k2) (l.setIfInBounds i true) t
|k,m,l,.two i t j u=>i !=k&&j !=k&&(Region.ready .any ops l==[i,j])&&(u.depth==t.depth)&&eL ops k m (l.setIfInBounds i true) t&&eL ops k m (l.setIfInBounds j true) u
def bX(P:O8)(ops:bl)(Q:Exit->aJ):KT->(FC->Prop)->aJ
|.done,_,a,w=>Q .normal a w
|.rp i t,S,a,w=>∃o v,ops[i]?=some o/\Yields P ops o v a/\bX P ops Q t S (a.put o.dst v) w
|.rm i t,S,a,w=>∃o v,ops[i]?=some o/\YieldsIf P ops S o v a/\bX P ops Q t S (a.put o.dst v) w
|.one i t,S,a,w=>wpOp P ops Q i (λa' w'=>∃S':FC->Prop,(∀W,S' W->S W)/\S' w'/\bX P ops Q t S' a' w') a w
|.brk i _ t,_,a,w=>wpOp P ops Q i (λa' w'=>∃S':FC->Prop,S' w'/\bX P ops Q t S' a' w') a w
|.two i t j u,S,a,w=>wpOp P ops Q i (λa' w'=>∃S':FC->Prop,(∀W,S' W->S W)/\S' w'/\bX P ops Q t S' a' w') a w/\wpOp P ops Q j (λa' w'=>∃S':FC->Prop,(∀W,S' W->S W)/\S' w'/\bX P ops Q u S' a' w') a w
def a1f(h:k∈Region.ready .any ops l):(l.setIfInBounds k true).getD k false=true:=by
 have h0:=(mJ.1 h).1;rcases bF k l.size with h'|h'
 .simp[h']
 .simp[ug h']at h0
def Gg(hs:Region.noSelect ops=true)(hQ:∀c a d v w,Q (.panic c) (a.put d v) w->Q (.panic c) a w):∀(t:KT)(k:Nat)(m:Oc)(S:OE)(l:Oc)(a:OA)(w:FC),
  (k<ops.size->m=Qv ops k)->eL ops k m l t=true->Shut ops l->l.getD k false=false->S w->bX P ops Q t S a w->Ib P ops Q k S t.depth l a w
|.done,k,m,S,l,a,w,_,hB,_,_,_,h=>⟨by simpa[eL]using hB,h⟩
|.rp i t,k,m,S,l,a,w,hm,hB,hl,hk,hS,h=>by
  simp only[eL,cR,qO]at hB;obtain⟨o,v,ho,hy,h⟩:=h;have hr:i∈Region.ready .any ops l:=by simpa using hB.1.2
  exact A2W ho (Region.noSelect_spec hs) (λc a w=>hQ c a o.dst v w) hB.1.1.1 _ l a w (Region.free_spec ho hB.1.1.2) hr hy (λ_=>hS)
   (Gg hs hQ t k m S _ _ _ hm hB.2 (hl.set hr) (by rw[gu false hB.1.1.1];exact hk) hS h)
|.rm i t,k,m,S,l,a,w,hm,hB,hl,hk,hS,h=>by
  simp only[eL,cR,qO,qV,iR]at hB;obtain⟨o,v,ho,hy,h⟩:=h;have hr:i∈Region.ready .any ops l:=by simpa using hB.1.2
  have hik:=hB.1.1.1.1
  refine PF ho (Region.noSelect_spec hs) (λc a w=>hQ c a o.dst v w) hik ?_ _ l a w (Region.free_spec ho hB.1.1.2) hr hy hS hl hk
   (Gg hs hQ t k m S _ _ _ hm hB.2 (hl.set hr) (by rw[gu false hik];exact hk) hS h)
  intro l' hl' hk'
  have hlt:k<ops.size:=by
   obtain⟨_,o',ho',_⟩:=mJ.1 hk';exact(ji.1 ho').1
  rcases hB.1.1.1.2 with h1|h1
  .rw[hm hlt]at h1;exact fV hl' hk' h1 hik
  .omega
|.one i t,k,m,S,l,a,w,hm,hB,hl,hk,hS,h=>by
  simp only[eL,cR,qO,iI]at hB;have hr:i∈Region.ready .any ops l:=by rw[hB.1.2];simp
  refine⟨λh0=>(by rw[h0]at hr;cases hr),λj hj=>?_⟩;rw[hB.1.2]at hj;obtain rfl:=fC.1 hj;refine iW ?_ h;rintro a' w'⟨S',h1,h2,h3⟩;exact⟨λ_=>h1 _ h2,IU h1 _ _ _ _ (Gg hs hQ t k m S' _ _ _ hm hB.2 (hl.set hr) (by rw[gu false hB.1.1];exact hk) h2 h3)⟩
|.brk i k2 t,k,m,S,l,a,w,hm,hB,hl,hk,hS,h=>by
  simp only[eL,cR,iI,Bool.not_eq_true']at hB;obtain⟨⟨⟨rfl,h1⟩,h2⟩,h3⟩:=hB;have hr:i∈Region.ready .any ops l:=by rw[h1];simp
  refine⟨λh0=>(by rw[h0]at hr;cases hr),λj hj=>?_⟩;rw[h1]at hj;obtain rfl:=fC.1 hj;refine iW ?_ h;rintro a' w'⟨S',g1,g2⟩;have hkk:=a1f hr;exact⟨λh0=>(by rw[hkk]at h0;cases h0),Qc _ _ _ _ hkk (Gg hs hQ t k2 _ S' _ _ _ (λ_=>rfl) h3 (hl.set hr) h2 g1 g2)⟩
|.two i t j u,k,m,S,l,a,w,hm,hB,hl,hk,hS,h=>by
  simp only[eL,cR,qO,iI]at hB;obtain⟨⟨⟨⟨⟨b1,b2⟩,b3⟩,b4⟩,b5⟩,b6⟩:=hB;have hri:i∈Region.ready .any ops l:=by rw[b3];simp
  have hrj:j∈Region.ready .any ops l:=by rw[b3];simp
  refine⟨λh0=>(by rw[h0]at hri;cases hri),λq hq=>?_⟩;rw[b3]at hq;rcases dh.1 hq with rfl|hq
  .refine iW ?_ h.1;rintro a' w'⟨S',h1,h2,h3⟩;exact⟨λ_=>h1 _ h2,IU h1 _ _ _ _ (Gg hs hQ t k m S' _ _ _ hm b5 (hl.set hri) (by rw[gu false b1];exact hk) h2 h3)⟩
  .obtain rfl:=fC.1 hq;refine iW ?_ h.2;rintro a' w'⟨S',h1,h2,h3⟩;refine⟨λ_=>h1 _ h2,?_⟩;have:=IU h1 _ _ _ _ (Gg hs hQ u k m S' _ _ _ hm b6 (hl.set hrj) (by rw[gu false b2];exact hk) h2 h3);rw[b4]at this;exact this
def Kv{l:bt}{a:OA}{w:FC}(k:Nat)(t:KT)(S:OE)(hm:P.follows .mixedOrders=true)(hs:Region.noSelect l.toArray=true)(hlen:t.depth=l.toArray.size)
  (hB:(!(Array.replicate l.toArray.size false).getD k false&&eL l.toArray k (Qv l.toArray k) (Array.replicate l.toArray.size false) t)=true)(hQ:∀c a d v w,Q (.panic c) (a.put d v) w->Q (.panic c) a w)(hS:S {w with drawn:=w.drawn+1})
  (h:bX P l.toArray Q t S a {w with drawn:=w.drawn+1}):(Code.region id l.toArray true).wp P Q a w:=by
 simp only[cR,Bool.not_eq_true']at hB;refine wp_region_any hm (Rh (k:=k) (S:=S) _ _ _ _ ?_);have H:=Gg hs hQ t k _ S _ a _ (λ_=>rfl) hB.2 (Shut.init _) hB.1 hS h;rw[hlen]at H;exact H
def NP{l:bt}{a:OA}{w w0:FC}{rs:ae}{ss:O1}(hO:Own w0 w rs ss)(k:Nat)(t:KT)(hm:P.follows .mixedOrders=true)(hs:Region.noSelect l.toArray=true)(hlen:t.depth=l.toArray.size)
  (hB:(!(Array.replicate l.toArray.size false).getD k false&&eL l.toArray k (Qv l.toArray k) (Array.replicate l.toArray.size false) t)=true)(hQ:∀c a d v w,Q (.panic c) (a.put d v) w->Q (.panic c) a w)
  (h:∀w',Own w0 w' rs ss->bX P l.toArray Q t (λW=>Own w0 W rs ss) a w'):(Code.region id l.toArray true).wp P Q a w:=
 Kv k t _ hm hs hlen hB hQ (hO.drawn _) (h _ (hO.drawn _))
variable{i k2:Nat}{t:KT}{S:OE}{a:OA}{w w' w0:FC}{o:Oz}{rs:ae}{ss:O1}
def Ba(h:Q .normal a w):bX P ops Q .done S a w:=h
def bj{v:NY}(ho:ops.toList[i]?=some o)(hw:MZ o ops a)
  (hrun:∀W,(execOp a.eval o).run P W=.ok (.value v) W)(h:bX P ops Q t S (a.put o.dst v) w):bX P ops Q (.rp i t) S a w:=
 ⟨o,v,by rw[<-cE];exact ho,.inl ⟨hw,hrun⟩,h⟩
def Bz(ho:ops.toList[i]?=some o)(hw:Region.wanted o (yielded ops a.tmps)=false)
  (h:bX P ops Q t S (a.put o.dst undef) w):bX P ops Q (.rp i t) S a w:=
 ⟨o,undef,by rw[<-cE];exact ho,.inr ⟨hw,rfl⟩,h⟩
def eO{v:NY}(ho:ops.toList[i]?=some o)(hw:MZ o ops a)
  (hrun:∀W,S W->(execOp a.eval o).run P W=.ok (.value v) W)(h:bX P ops Q t S (a.put o.dst v) w):bX P ops Q (.rm i t) S a w:=
 ⟨o,v,by rw[<-cE];exact ho,.inl ⟨hw,hrun⟩,h⟩
def D6(ho:ops.toList[i]?=some o)(hw:Region.wanted o (yielded ops a.tmps)=false)
  (h:bX P ops Q t S (a.put o.dst undef) w):bX P ops Q (.rm i t) S a w:=
 ⟨o,undef,by rw[<-cE];exact ho,.inr ⟨hw,rfl⟩,h⟩
def Eff(P:O8)(o:Oz)(a:OA)(w:FC)(K:Value->FC->Prop):Prop:=
 ∃v w',((execOp a.eval o).run P w=.ok (.value v) w'\/((execOp a.eval o).run P w=.ok .skip w'/\v=undef))/\K v w'
def Eff.val{v:NY}{K:Value->FC->Prop}(h:(execOp a.eval o).run P w=.ok (.value v) w')(hK:K v w'):Eff P o a w K:=⟨v,w',.inl h,hK⟩
def Eff.skip{K:Value->FC->Prop}(h:(execOp a.eval o).run P w=.ok .skip w')(hK:K undef w'):Eff P o a w K:=⟨undef,w',.inr ⟨h,rfl⟩,hK⟩
def Eff.wp{K:Value->FC->Prop}(h:Eff P o a w K){F:aJ}(hF:∀v w',K v w'->F (a.put o.dst v) w'):o.wp P a w F Q:=by
 obtain⟨v,w',h|⟨h,rfl⟩,hK⟩:=h
 .unfold Oper.wp;rw[h];exact hF _ _ hK
 .unfold Oper.wp;rw[h];exact hF _ _ hK
def Ad(hg:MZ o ops a)(h:Eff P o a w λv w'=>wpList P ops Q rest (a.put o.dst v) w'):wpList P ops Q (o::rest) a w:=
 kN hg λ_ hK=>h.wp λ_ _ h=>hK _ _ h
def Dx{F:aJ}(ho:ops.toList[i]?=some o)(hw:MZ o ops a)(h:∀K:aJ,(∀a' w',F a' w'->K a' w')->o.wp P a w K Q):wpOp P ops Q i F a w:=by
 have ho':ops[i]?=some o:=by rw[<-cE];exact ho
 unfold wpOp;simp only[ho',hw,fP];exact .inl (h _ λ_ _ h=>h)
def DJ(ho:ops.toList[i]?=some o)(hw:MZ o ops a)
  (h:∀K:aJ,(∀a' w',(∃S':FC->Prop,(∀W,S' W->S W)/\S' w'/\bX P ops Q t S' a' w')->K a' w')->o.wp P a w K Q):bX P ops Q (.one i t) S a w:=Dx ho hw h
def PO(ho:ops.toList[i]?=some o)(hw:MZ o ops a)
  (h:∀K:aJ,(∀a' w',(∃S':FC->Prop,S' w'/\bX P ops Q t S' a' w')->K a' w')->o.wp P a w K Q):bX P ops Q (.brk i k2 t) S a w:=Dx ho hw h
def Bo(ho:ops.toList[i]?=some o)(hw:MZ o ops a)(h:Eff P o a w λv w'=>∃S':FC->Prop,(∀W,S' W->S W)/\S' w'/\bX P ops Q t S' (a.put o.dst v) w'):bX P ops Q (.one i t) S a w:=
 DJ ho hw λ_ hK=>h.wp λ_ _ h=>hK _ _ h
def Em(ho:ops.toList[i]?=some o)(hw:MZ o ops a)(h:Eff P o a w λv w'=>∃S':FC->Prop,S' w'/\bX P ops Q t S' (a.put o.dst v) w'):bX P ops Q (.brk i k2 t) S a w:=
 PO ho hw λ_ hK=>h.wp λ_ _ h=>hK _ _ h
def Cu{F:aJ}(ho:ops.toList[i]?=some o)(hw:Region.wanted o (yielded ops a.tmps)=false)(h:F (a.put o.dst undef) w):wpOp P ops Q i F a w:=by
 have ho':ops[i]?=some o:=by rw[<-cE];exact ho
 unfold wpOp;simp only[ho',hw,lU,jq];exact h
def zH(hS:S w)(ho:ops.toList[i]?=some o)(hw:Region.wanted o (yielded ops a.tmps)=false)(h:bX P ops Q t S (a.put o.dst undef) w):bX P ops Q (.one i t) S a w:=
 Cu ho hw ⟨S,λ_ h=>h,hS,h⟩
def xB(hS:S w)(ho:ops.toList[i]?=some o)(hw:Region.wanted o (yielded ops a.tmps)=false)(h:bX P ops Q t S (a.put o.dst undef) w):bX P ops Q (.brk i k2 t) S a w:=
 Cu ho hw ⟨S,hS,h⟩
end
end
section
variable{a:OA}{l:Oc}{i id:Nat}{o:Oz}{w:FC}
section
variable{P:O8}{ops:bl}{Q:Exit->aJ}
def Gh(ops:bl):Bool:=(List.range ops.size).all λi=>((ops[i]?).map (·.after.all λe=>!Region.binds .any e||decide (e.on<i))).getD false
def a0V(hw:Gh ops=true):∀(i:Nat),i<ops.size->l.getD i true=false->(∀j,j<i->l.getD j false=true)->i∈Region.ready .any ops l:=by
 intro i hi hl hj;unfold Region.ready;rw[lX];refine⟨dS.2 hi,?_⟩;have h1:=iP.1 hw i (dS.2 hi);rw[hl];rw[FB hi]at h1⊢;simp only[jE,Option.getD_some,Bool.not_false,y8,Array.all_eq_true]at h1⊢;intro k hk;have h2:=h1 k hk;rw[qV]at h2⊢;rcases h2 with h2|h2
 .exact .inl h2
 .exact .inr (hj _ (eF h2))
def least{p:Nat->Prop}:∀(n:Nat),p n->∃m,p m/\m<=n/\∀j,j<m->¬p j:=by
 intro n
 induction n using Nat.strongRecOn with
|ind n ih=>
  intro hn;by_cases h:∃j,j<n/\p j
  .obtain⟨j,h1,h2⟩:=h;obtain⟨m,h3,h4,h5⟩:=ih j h1 h2;exact⟨m,h3,FP,h5⟩
  .exact⟨n,hn,aX _,λj hj hp=>h ⟨j,hj,hp⟩⟩
def getD_in(h:i<l.size)(a b:Bool):l.getD i a=l.getD i b:=by simp[h]
def ED(h:i<l.size):(l.setIfInBounds i true).getD i false=true:=by simp[h]
def wild(hw:Gh ops=true){S:OE}(inv:Array Bool->aJ)(hS:∀l a w,inv l a w->S w)
  (hstep:∀(l:Oc)(i:Nat)(a:OA)(w:FC),l.size=ops.size->i∈Region.ready .any ops l->inv l a w->wpOp P ops Q i (λa' w'=>inv (l.setIfInBounds i true) a' w') a w)
  (hend:∀(l:Oc)(a:OA)(w:FC),(∀i,i<ops.size->l.getD i false=true)->inv l a w->Q .normal a w):
  ∀(n:Nat)(l:Oc)(rem:b9)(a:OA)(w:FC),rem.length=n->rem.Nodup->l.size=ops.size->(∀i,i∈rem↔i<ops.size/\l.getD i false=false)->inv l a w->wpAnyH P .any ops Q S n l a w
|0,l,rem,a,w,hn,_,hs,hr,h=>by
  obtain rfl:=l9.1 hn
  have hall:∀i,i<ops.size->l.getD i false=true:=λi hi=>by
   by_cases h:l.getD i false=true
   .exact h
   .exact absurd ((hr i).2 ⟨hi,by simpa using h⟩) G5
  refine⟨?_,hend l a w hall h⟩;refine List.eq_nil_iff_forall_not_mem.2 λi hi=>?_;unfold Region.ready at hi;rw[lX]at hi;have h1:=dS.1 hi.1;have h2:=hall i h1;rw[getD_in FP true false]at hi;rw[h2]at hi;simp at hi
|n+1,l,rem,a,w,hn,hd,hs,hr,h=>by
  refine⟨λh0=>?_,λi hi=>?_⟩
  .exfalso;cases rem with
  |nil=>cases hn
  |cons k rem=>
    obtain⟨m,h1,h2,h3⟩:=least (p:=λi=>i<ops.size/\l.getD i false=false) k ((hr k).1 (eP ..))
    have hm:m∈Region.ready .any ops l:=a0V hw m h1.1 (by rw[getD_in FP true false];exact h1.2) λj hj=>by
     by_cases hc:l.getD j false=true
     .exact hc
     .exact absurd ⟨FP,by simpa using hc⟩ (h3 j hj)
    rw[h0]at hm;cases hm
  .have hi':=hi;unfold Region.ready at hi';rw[lX]at hi';have h1:=dS.1 hi'.1
   have h2:l.getD i false=false:=by
    have:=hi'.2;rw[cR,getD_in FP true false]at this;simpa using this.1
   have hm:i∈rem:=(hr i).2 ⟨h1,h2⟩;refine iW ?_ (hstep l i a w hs hi h);intro a' w' h';refine⟨hS _ _ _ h',wild hw inv hS hstep hend n _ (rem.erase i) a' w' (by rw[zn hm];omega) (hd.erase i) (by rw[zF];exact hs) (λj=>?_) h'⟩;rw[hd.mem_erase_iff,hr j];by_cases hj:i=j
   .subst hj;rw[ED FP];simp
   .rw[gu false hj];exact⟨λh=>h.2,λh=>⟨λe=>hj e.symm,h⟩⟩
def a1g(hm:P.follows .mixedOrders=true)(hw:Gh ops=true)(inv:Array Bool->aJ)
  (hstep:∀(l:Oc)(i:Nat)(a:OA)(w:FC),l.size=ops.size->i∈Region.ready .any ops l->inv l a w->wpOp P ops Q i (λa' w'=>inv (l.setIfInBounds i true) a' w') a w)
  (hend:∀(l:Oc)(a:OA)(w:FC),(∀i,i<ops.size->l.getD i false=true)->inv l a w->Q .normal a w)
  (h:inv (Array.replicate ops.size false) a {w with drawn:=w.drawn+1}):(Code.region id ops true).wp P Q a w:=
 wp_region_held (S:=λ_=>True) hm (wild hw inv (λ_ _ _ _=>trivial) hstep hend ops.size _ (List.range ops.size) a _ G5 List.nodup_range G5 (λi=>by
  rw[dS]
  refine⟨λh=>⟨h,by simp[h]⟩,λh=>h.1⟩) h)
def Ap(hs:l.size=ops.size)(h:i∈Region.ready .any ops l)(ho:ops[i]?=some o):l.getD i false=false/\∀e∈o.after.toList,Region.binds .any e=true->l.getD e.on false=true:=by
 obtain⟨h1,o',h2,h3⟩:=mJ.1 h;rw[ho]at h2;cases h2;have hi:i<ops.size:=(ji.1 ho).1;exact⟨by rw[getD_in FP false true];exact h1,λe he hb=>h3 e (by simpa using he) hb⟩
end
end
open Classical in
noncomputable def Po(p:Nat->Prop):Nat:=if h:∃n,p n/\∀j,j<n->¬p j then h.choose else 0
def JJ{p:Nat->Prop}{n:Nat}(hn:p n):∃n,p n/\∀j,j<n->¬p j:=by
 obtain⟨m,h1,_,h2⟩:=least n hn;exact⟨m,h1,h2⟩
def YV{p:Nat->Prop}{n:Nat}(hn:p n):p (Po p):=by
 unfold Po;rw[dif_pos (JJ hn)];exact(JJ hn).choose_spec.1
def Fv{p:Nat->Prop}{n:Nat}(hn:p n):Po p<=n:=by
 have h:¬n<Po p:=by
  unfold Po;rw[dif_pos (JJ hn)];exact λhlt=>(JJ hn).choose_spec.2 n hlt hn
 omega
end Go.Proofs.YtkpbhdhkdonghaaGreat
