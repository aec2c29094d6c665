/- Part 13 of the proof. -/
import Derived.Deep.AppendSrc
import Derived.Test.YtkpbhdhkdonghaaGreatS12
set_option linter.all false
set_option maxHeartbeats 4000000
set_option maxRecDepth 100000
namespace Go.Proofs.YtkpbhdhkdonghaaGreat
open Go Go.RowKit
section
variable{cs:ai}{news xs:ar}{c e g k n s t:Nat}{nr:O9}{x y:O7}{rt:ae}{i:Oy}{sv z:NY}
def Own.perm{w0 w:FC}{rs:ae}{ss:O1}(h:Own w0 w rs ss)(hp:rt.Perm rs):Own w0 w rt ss:=
 ⟨⟨h.mem.below,λp hp'=>h.mem.own p (hp.mem_iff.1 hp'),λp hp'=>h.mem.rows p (hp.mem_iff.1 hp'),(hp.map _).nodup_iff.2 h.mem.apart⟩,h.sl,((hp.map Prod.fst).append_left _).nodup_iff.2 h.apart⟩
def Lies(s:Nat)(X:ae)(v:NY)(n:Nat)(xs:ar):Prop:=xs.length=n*s/\((v=.slice none 0 0/\xs=[]/\n=0/\X=[])\/∃g p c cells,X=[(g,cells)]/\v=.slice (some ⟨g,p,none⟩) n c/\n<=c/\p+c*s<=cells.size/\∀j,j<xs.length->cells[p+j]?=xs[j]?)
def From(s:Nat)(w:FC)(v:NY)(k:Nat)(news:ar):Prop:=news.length=k*s/\((v=.slice none 0 0/\k=0/\news=[])\/∃ad c,v=.slice (some ad) k c/\(∀j u,news[j]?=some u->w.cell? (ad.add j)=some u))
def From.tK{w:FC}{v:NY}(h:Src w v news):From 1 w v news.length news:=by
 refine⟨FP,?_⟩;rcases h with⟨rfl,rfl⟩|⟨ad,c,rfl,hc⟩
 .exact .inl ⟨rfl,rfl,rfl⟩
 .exact .inr ⟨ad,c,rfl,hc⟩
def From.io{w:FC}(h:AA w g cs)(off:Nat)(hn:news.length=k*s)(hc:∀j u,news[j]?=some u->cs[off+j]?=some u):From s w (.slice (some ⟨g,off,none⟩) k c) k news:=
 ⟨hn,.inr ⟨_,_,rfl,λj u hj=>by rw[fQ,h.cell];exact hc j u hj⟩⟩
def TA:∀(vs:ar)(cs:ai)(o i:Nat),o+vs.length<=cs.size->(J4 cs o vs)[i]?=if o<=i/\i<o+vs.length then vs[i-o]?else cs[i]?
|[],cs,o,i,_=>by simp[J4];omega
|v::vs,cs,o,i,h=>by
  simp only[bD]at h⊢;rw[J4,TA vs _ (o+1) i G8];by_cases h1:o+1<=i/\i<o+1+vs.length
  .exact N1
  .rw[aP h1];by_cases h2:i=o
   .subst h2;rw[aQ FP,iV,Fa,zT FP]
   .rw[aP FP,tq FP]
def Qh:∀(vs:ar)(cs:ai)(o:Nat),(J4 cs o vs).size=cs.size
|[],_,_=>rfl
|v::vs,cs,o=>by rw[J4,Qh vs];simp
structure OW(P:O8)(t e s bytes:Nat)(i:Oy)(z:NY):Prop where
 under:P.underlying t=some (.slice e)
 info:P.info? e=some i
 zero:i.zero=some z
 size:i.size=s
 zs:z.cells.size=s
 bytes:i.bytes=bytes
def OW.ex{P:O8}{bytes:Nat}(hu:P.underlying t=some (.slice e))(h:(P.info? e).map (λi=>(i.zero,i.size,i.bytes))=some (some z,s,bytes))(hc:z.cells.size=s):∃i,OW P t e s bytes i z:=by
 cases hi:P.info? e with
|none=>rw[hi]at h;cases h
|some i=>
  rw[hi]at h;simp only[jE,oG,oz]at h;exact⟨i,hu,hi,h.1,h.2.1,hc,h.2.2⟩
section
variable{P:O8}{w0 w:FC}{A X rs:ae}{ss:O1}{o:Oz}{a:OA}{K:Value->FC->Prop}
def Own.grow(h:Own w0 w (nr::(A++(X++rs))) ss):Own w0 w (A++([nr]++rs)) ss:=by
 have h1:Own w0 w (nr::(A++rs)) ss:=h.sub (jw nr (jF (aY A) (bG X rs))) (aY _);exact h1.perm jo
def GR{bytes:Nat}(hm:Own w0 w (A++(X++rs)) ss)(ho:o.op=.call {callee:=.builtin .append,args:=#[x,y],argTypes:=#[t,t]})(he:OW P t e s bytes i z)
  {v:NY}(hx:a.eval x=v)(hX:Lies s X v n xs)(hy:a.eval y=sv)(hs:∀W,Own w0 W (A++(X++rs)) ss->From s W sv k news)(h1:∀u∈news,u.oneCell'=true)(hb:(n+k)*bytes<=140737488355328)(h63:n+k<=281474976710656)(hs0:0<s)
  (h:∀X' v' w',Lies s X' v' (n+k) (xs++news)->Own w0 w' (A++(X'++rs)) ss->K v' w'):Eff P o a w K:=by
 have hF:=hs w hm;have hFD:=hs w.drew (by exact hm.drawn _);have hlen:(xs++news).length=(n+k)*s:=by rw[aV,hX.1,hF.1,oh]
 suffices hh:∃v' w',(Builtin.append_ #[t,t] o.type #[v,sv]).run P w=.ok v' w'/\K v' w' by
  exact L5
 have hsrc:∀j:Unit,Go.Src P i.size t sv k news w:=λ_=>by
  exact vn
 have grow:∀(base:Ov)(sCap:Nat),sCap<n+k->(Builtin.firstCells i.size n (.slice base n sCap)).run P w.drew=.ok xs.toArray w.drew->v=.slice base n sCap->∃v' w',(Builtin.append_ #[t,t] o.type #[v,sv]).run P w=.ok v' w'/\K v' w':=by
  intro base sCap hg hold hv;have hr:=run_append_grow_src w t t o.type e i z he.under he.info he.zero base n sCap xs hold sv k news (hsrc ()) hg FP (tY hg IV);rw[hv];refine⟨_,_,hr,?_⟩;have hge:=xk w (n+k) sCap e;refine h [(w.heap.size,(xs++news).toArray++Builtin.zeroCells z.cells (grownCap w (n+k) sCap e-(n+k)))] _ _ ⟨hlen,.inr ⟨_,0,_,_,rfl,rfl,hge,?_,?_⟩⟩ ?_
  .exact K8
  .intro j hj;rw[dA,zC (by simpa using hj)];simp
  .exact Own.grow ((hm.drawn (w.drawn+1)).alloc _ e)
 rcases hX.2 with⟨rfl,rfl,rfl,rfl⟩|⟨g,p,c,cells,rfl,rfl,hnc,hsz,hcells⟩
 .by_cases hk:k=0
  .subst hk;have hn0:news=[]:=by have:=hF.1;rw[qj]at this;exact l9.1 this
   subst hn0;refine⟨.slice none 0 0,w,?_,h [] _ _ ⟨G5,.inl ⟨rfl,rfl,rfl,rfl⟩⟩ hm⟩;exact GP
  .exact Ge
 .by_cases hr:n+k<=c
  .have hi:(A++([(g,cells)]++rs))[A.length]?=some (g,cells):=G5
   have hrow:=hm.row _ hi;have hcs:c*s=n*s+(c-n)*s:=by rw[<-oh];congr 1;omega
   have hks:k*s<=(c-n)*s:=rV s FP;have hfit:p+n*s+news.length<=cells.size:=by rw[hF.1];omega
   have hrun:=run_append_room_src w t t o.type e i he.under he.info g p n c sv k news (hsrc ()) hr (λj hj=>by rw[he.size,hrow.cell];simp;omega) (λj _=>hrow.free _);refine⟨_,_,hrun,?_⟩;have hset:=Own.setCells A.length news (p+n*i.size) w _ cells hm hi;have e1:(A++([(g,cells)]++rs)).set A.length (g,J4 cells (p+n*i.size) news)=A++([(g,J4 cells (p+n*i.size) news)]++rs):=G5
   rw[e1]at hset;refine h _ _ _ ⟨hlen,.inr ⟨g,p,c,_,rfl,rfl,hr,?_,?_⟩⟩ hset
   .rw[Qh];exact hsz
   .intro j hj;rw[he.size,TA news cells _ _ hfit];rw[aV]at hj;by_cases hjx:j<xs.length
    .rw[aP (by rw[<-hX.1];omega),hcells j hjx,kF hjx]
    .rw[aQ (by rw[<-hX.1];omega),lW FP]
     congr 1
     rw[<-hX.1];omega
  .exact Jx
end
end
open Go Tryz Go.RowKit
section
variable{zz:Int}{q:Ob}{l m:ac}{news xs:ar}{c e g h k n p s t:Nat}{x y:O7}{ad:Ov}{hi lo:Option Operand}{A:ae}{i:Oy}{u z:NY}{w':FC}
def Lies.nil(s:Nat):Lies s [] (.slice none 0 0) 0 []:=⟨G5,.inl ⟨rfl,rfl,rfl,rfl⟩⟩
def Lies.shape{X:ae}{v:NY}(h:Lies s X v n xs):∃ad c,v=.slice ad n c:=by
 rcases h.2 with⟨rfl,_,rfl,_⟩|⟨g,p,c,cells,_,rfl,_⟩
 .exact⟨_,_,rfl⟩
 .exact⟨_,_,rfl⟩
def Lies.pos{X:ae}{v:NY}(h:Lies s X v n xs)(hn:0<n):∃g p c cells,X=[(g,cells)]/\v=.slice (some ⟨g,p,none⟩) n c/\n<=c/\p+c*s<=cells.size/\xs.length=n*s/\∀j,j<xs.length->cells[p+j]?=xs[j]?:=by
 rcases h.2 with⟨rfl,_,rfl,_⟩|⟨g,p,c,cells,h1,h2,h3,h4,h5⟩
 .omega
 .exact⟨g,p,c,cells,h1,h2,h3,h4,h.1,h5⟩
def Lies.io{cells:ai}(h1:xs.length=n*s)(h2:n<=c)(h3:p+c*s<=cells.size)(h4:∀j,j<xs.length->cells[p+j]?=xs[j]?):Lies s [(g,cells)] (.slice (some ⟨g,p,none⟩) n c) n xs:=
 ⟨h1,.inr ⟨g,p,c,cells,rfl,rfl,h2,h3,h4⟩⟩
def Lies.whole(h1:xs.length=n*s):Lies s [(g,xs.toArray)] (.slice g n n) n xs:=
 Lies.io h1 (aX _) (by simp[h1]) (λj hj=>by simp)
def Lies.from{w w0:FC}{X rs:ae}{ss:O1}{v:NY}(h:Lies s X v n xs)(hm:Own w0 w (A++(X++rs)) ss):From s w v n xs:=by
 refine⟨h.1,?_⟩;rcases h.2 with⟨rfl,rfl,rfl,rfl⟩|⟨g,p,c,cells,rfl,rfl,hc,hs,hcells⟩
 .exact .inl ⟨rfl,rfl,rfl⟩
 .refine .inr ⟨_,_,rfl,λj u hj=>?_⟩;have hr:=hm.row (i:=A.length) (g:=g) (cs:=cells) G5;have hl:=(gI.1 hj).1;rw[fQ,hr.cell,hcells j hl,hj]
def From.src{w:FC}{v:NY}(h:From 1 w v k news):Src w v news:=by
 have hk:news.length=k:=by have:=h.1;omega
 rcases h.2 with⟨rfl,_,rfl⟩|⟨ad,c,rfl,hc⟩
 .exact .inl ⟨rfl,rfl⟩
 .exact .inr ⟨ad,c,by rw[hk],hc⟩
def Own.y3{w0 w:FC}{rs:ae}{ss:O1}{v:NY}{e:O4}(h:Own w0 w rs ((v,e,xs)::ss))(hq:e<Ey:=by exact N8):∃X,Lies 1 X v xs.length xs/\Own w0 w (X++rs) ss:=by
 have hs:=h.get 0 rfl hq;rcases hs.2 with⟨hv,h0⟩|⟨g,cap,cur,hv,hb,hh,hn,hcap,hsz,ht⟩
 .simp only at hv h0;have hx:xs=[]:=l9.1 h0;subst hx;exact⟨[],⟨G5,.inl ⟨hv,rfl,rfl,rfl⟩⟩,h.J9⟩
 .simp only at hv hb hh hn hcap hsz ht;refine⟨[(g,cur)],⟨G5,.inr ⟨g,0,cap,cur,rfl,hv,hn,FP,λj hj=>?_⟩⟩,?_⟩
  .rw[kQ]at ht;rw[dA,<-ht,nH FP];simp
  .have hd:=h.J9;obtain⟨h1,h2,h3⟩:=jv.1 h.apart;have hvb:v.ownBlock=some g:=by rw[hv];rfl
   rw[iZ,hvb]at h1 h3;rw[dR]at h1;have hg:g∉rs.map (·.1):=λhm=>h3 g G5 g hm rfl;refine⟨⟨hd.mem.below,?_,?_,?_⟩,hd.sl,?_⟩
   .intro p hp;rcases dh.1 hp with rfl|hp
    .exact hb
    .exact hd.mem.own p hp
   .intro p hp;rcases dh.1 hp with rfl|hp
    .exact⟨e,hh⟩
    .exact hd.mem.rows p hp
   .rw[DV,bT,dR];exact⟨hg,hd.mem.apart⟩
   .refine jv.2 ⟨h1.2,by rw[DV,bT,dR];exact⟨hg,h2⟩,?_⟩;intro a ha b hb2 hab;subst hab;rw[DV,bT]at hb2;rcases dh.1 hb2 with rfl|hb2
    .exact h1.1 ha
    .exact h3 a (fB _ ha) a hb2 rfl
def Own.mL{w0 w:FC}{rs:ae}{ss:O1}(h:Own w0 w rs ss){x:Ending}(hb:OwnB w l x w'):∃X v,x=.returned v/\Lies 1 X v l.length (vs .u8 l)/\Own w0 w' (X++rs) ss:=by
 obtain⟨⟨v,rfl,ho⟩,hb⟩:=hb;have ho':w'.ownsRow w.heap.size 5 1 v (vs .u8 l).length (vs .u8 l):=by rw[Ai];exact ho
 exact G'
section
variable{P:O8}{w w0:FC}{o:Oz}{a:OA}{rs:ae}{ss:O1}
def ix{bytes:Nat}(ho:o.op=.indexAddr t x y)(he:OW P t e s bytes i z)(hx:a.eval x=.slice (some ⟨g,p,none⟩) n c)(hy:a.eval y=.int q zz)(hz:zz=k)(hk:k<n):
  (execOp a.eval o).run P w=.ok (.value (.pointer (some ⟨g,p+k*s,none⟩))) w:=by
 subst hz;unfold execOp;simp only[ho,hx,hy,Instr.indexAt,asIntOf,aL,bw,aS,bL he.under];simp[show(k:Int)<(n:Int) by omega,sizeOf,typeInfo,he.info,he.size,fQ]
def db{bytes:Nat}(ho:o.op=.indexAddr t x y)(he:OW P t e 1 bytes i z)(hx:a.eval x=.slice (some ⟨g,p,none⟩) n c)(hy:a.eval y=.int q zz)(hz:zz=k)(hk:k<n):
  (execOp a.eval o).run P w=.ok (.value (.pointer (some ⟨g,p+k,none⟩))) w:=by
 have:=ix (P:=P) (w:=w) ho he hx hy hz hk;rwa[kQ]at this
def Afm{bytes:Nat}(he:OW P t e s bytes i z){lo hi:Option Value}{l:Nat}
  (hlo:(lo=none/\l=0)\/∃q,lo=some (.int q l))(hhi:(hi=none/\h=n)\/∃q,hi=some (.int q h))(h1:l<=h)(h2:h<=c):
  (Instr.sliceAt t (.slice ad n c) lo hi none).run P w=.ok (.slice (if c=l then ad else ad.map (·.add (l*s))) (h-l) (c-l)) w:=by
 have hl0:(0:Int)<=l:=FP
 have hh0:(0:Int)<=h:=FP
 have hlh:(l:Int)<=h:=FP
 have hhc:(h:Int)<=c:=FP
 unfold Instr.sliceAt;rw[aL,bL he.under];simp only[aS];unfold Instr.slice;rw[aL,bL he.under];simp only[aS]
 rcases hlo with⟨rfl,rfl⟩|⟨q1,rfl⟩<;>rcases hhi with⟨rfl,rfl⟩|⟨q2,rfl⟩<;>
  simp[Instr.sliceBounds,Instr.sliceBound,asIntOf,sizeOf,typeInfo,he.info,he.size,h1,h2,Result.andThen]
def NA{bytes:Nat}(ho:o.op=.slice t x lo hi none)(he:OW P t e s bytes i z)(hx:a.eval x=.slice ad n c){l:Nat}
  (hlo:(lo.map a.eval=none/\l=0)\/∃q,lo.map a.eval=some (.int q l))(hhi:(hi.map a.eval=none/\h=n)\/∃q,hi.map a.eval=some (.int q h))(h1:l<=h)(h2:h<=c):
  (execOp a.eval o).run P w=.ok (.value (.slice (if c=l then ad else ad.map (·.add (l*s))) (h-l) (c-l))) w:=by
 unfold execOp;simp only[ho,hx,aL,xZ,Afm he hlo hhi h1 h2,aS,bw]
def Lies.put{cells:ai}(hX:Lies s [(g,cells)] (.slice (some ⟨g,p,none⟩) n c) n xs){j:Nat}(hj:j<xs.length)(u:NY):p+j<cells.size/\Lies s [(g,cells.setIfInBounds (p+j) u)] (.slice (some ⟨g,p,none⟩) n c) n (xs.set j u):=by
 rcases hX.2 with⟨e,_⟩|⟨g',p',c',cells',e1,e2,hc,hs,hcells⟩
 .cases e
 .cases e1;cases e2
  have hlt:p+j<cells.size:=by
   have:n*s<=c*s:=rV s hc;have:=hX.1;omega
  refine⟨hlt,by rw[cO];exact hX.1,.inr ⟨g,p,c,_,rfl,rfl,hc,by rw[zF];exact hs,λk hk=>?_⟩⟩;rw[cO]at hk;by_cases hjk:j=k
  .subst hjk;rw[zT hlt,Dj hj]
  .rw[tq FP,Dv hjk];exact hcells k hk
def Lies.cell{cells:ai}(hX:Lies s [(g,cells)] (.slice (some ⟨g,p,none⟩) n c) n xs){j:Nat}(hj:xs[j]?=some u):cells[p+j]?=some u:=by
 rcases hX.2 with⟨e,_⟩|⟨g',p',c',cells',e1,e2,hc,hs,hcells⟩
 .cases e
 .cases e1;cases e2;rw[hcells j (gI.1 hj).1,hj]
end
def aK{k:Ob}{i:Nat}{x:Int}:(vs k l).set i (.int k x)=vs k (l.set i x):=by simp[vs,List.map_set]
def qy{k:Ob}:vs k l++vs k m=vs k (l++m):=by simp[vs]
def yZ{k:Ob}{x:Int}:[Value.int k x]=vs k [x]:=rfl
def nP:∃i,OW prog 22 5 1 1 i (.int .u8 0):=OW.ex underlying22 FZ rfl
def wM:∃i,OW prog 124 3 1 8 i (.int .i64 0):=OW.ex underlying124 FZ rfl
def a1E:∃i,OW prog 34 22 1 24 i (.slice none 0 0):=OW.ex underlying34 FZ rfl
def mz:∃i,OW prog 102 50 2 16 i (.agg #[.int .i64 0,.int .i64 0]):=OW.ex underlying102 FZ rfl
def xC:∃i,OW prog 239 241 2 16 i (.agg #[.int .i64 0,.int .i64 0]):=OW.ex underlying239 FZ rfl
def pZ:∃i,OW prog 276 281 2 16 i (.agg #[.int .i64 0,.bool false]):=OW.ex underlying276 FZ rfl
def tF:∃i,OW prog 278 276 1 24 i (.slice none 0 0):=OW.ex underlying278 FZ rfl
end
section
variable{b:OA}{cs cs' ns:ai}{zz:Int}{q qk:Ob}{l:bt}{T:ar}{c e g id k n off:Nat}{R':ae}{z:NY}
def kI(o:Oz):Bool:=match o.op with
|.move _|.assign _|.pick _ _ _|.build _ _|.load _ _|.nilCheck _|.binOp _ _ _ _ _|.unOp _ _ _|.convert _ _ _|.makeInterface _ _|.makeFunc _ _ _|.slice _ _ _ _ _|.fieldAddr _ _ _|.field _ _ _|.indexAddr _ _ _|.index _ _ _|.lookup _ _ _ _|.extract _ _=>true
|.call c=>(match c.callee with
 |.builtin .len|.builtin .cap|.builtin .min|.builtin .max=>true
 |_=>false)
|_=>false
def pM(o:Oz):Bool:=kI o&&match o.op with
|.load _ _|.lookup _ _ _ _=>false
|_=>true
def si:bt->Nat->List (Nat×Oper)
|[],_=>[]
|o::l,i=>(i,o)::si l (i+1)
def nth:bt->Nat->Oper
|[],_=>default
|o::_,0=>o
|_::l,i+1=>nth l i
def sel(l:bt):b9->List (Nat×Oper)
|[]=>[]
|i::od=>(i,nth l i)::sel l od
def pick(l:bt):b9->List (Nat×Oper)
|[]=>si l 0
|i::od=>(i,nth l i)::sel l od
def mN(ks:b9)(n:Nat):List (Nat×Oper)->Nat
|[]=>n
|(i,o)::l=>if kI o||ks.contains i then mN ks n l else i
def mkT(ks:b9)(n:Nat):List (Nat×Oper)->KT
|[]=>.done
|(i,o)::l=>if pM o then .rp i (mkT ks n l)else if kI o then .rm i (mkT ks n l)else if ks.contains i then .one i (mkT ks n l)else .brk i (mN ks n l) (mkT ks n l)
section
variable{P:O8}{ops:bl}{Q:Exit->aJ}{a:OA}{w w0:FC}{rs R:ae}{ss tt:O1}{rest:bt}{js:OB}{o:Oz}{i:Nat}{v:NY}{ks:b9}
def bA(P:O8)(ops:bl)(Q:Exit->aJ)(ks:b9)(w0:FC)(rs:ae)(ss:O1)(js:OB)(a:OA)(w:FC):Prop:=(∀p∈js,ops[p.1]?=some p.2)->bX P ops Q (mkT ks ops.size js) (λW=>Own w0 W rs ss) a w
def IN(h:Q .normal a w):bA P ops Q ks w0 rs ss [] a w:=λ_=>h
def oE(hr:pM o=false)(hr2:kI o=true)(hw:MZ o ops a)(hrun:∀W,Own w0 W rs ss->(execOp a.eval o).run P W=.ok (.value v) W)(h:bA P ops Q ks w0 rs ss js (a.put o.dst v) w):bA P ops Q ks w0 rs ss ((i,o)::js) a w:=λhl=>by
 rw[mkT,aP (by rw[hr];decide),aQ hr2];exact OH
def j1(hr:pM o=true)(hw:MZ o ops a)(hrun:∀W,(execOp a.eval o).run P W=.ok (.value v) W)(h:bA P ops Q ks w0 rs ss js (a.put o.dst v) w):bA P ops Q ks w0 rs ss ((i,o)::js) a w:=λhl=>by
 rw[mkT,aQ hr];exact OH
def Aif(hr:kI o=true)(hw:Region.wanted o (yielded ops a.tmps)=false)(h:bA P ops Q ks w0 rs ss js (a.put o.dst undef) w):bA P ops Q ks w0 rs ss ((i,o)::js) a w:=λhl=>by
 have h:=h λp hp=>hl p (fB _ hp);rw[mkT,aQ hr];split
 .exact⟨o,undef,hl _ eP,.inr ⟨hw,rfl⟩,h⟩
 .exact⟨o,undef,hl _ eP,.inr ⟨hw,rfl⟩,h⟩
def kb(P:O8)(ops:bl)(Q:Exit->aJ)(ks:b9)(w0:FC)(rs:ae)(ss:O1)(js:OB)(b:Bool):Exit->aJ
|.normal,a,w=>∃R tt,Own w0 w R tt/\(b=true->∀W,Own w0 W R tt->Own w0 W rs ss)/\bA P ops Q ks w0 R tt js a w
|e,a,w=>Q e a w
def F2{b:Bool}{K:aJ}(h:wpList P ops (kb P ops Q ks w0 rs ss js b) [o] a w)(hk:∀a w,kb P ops Q ks w0 rs ss js b .normal a w->K a w)(ho:ops[i]?=some o):wpOp P ops Q i K a w:=by
 unfold wpOp;simp only[ho];simp only[wpList]at h;split
 .rename_i hw;rw[aQ hw]at h;rcases h with h|⟨h,h3⟩
  .refine .inl (Oper.wp_mono (K:=kb P ops Q ks w0 rs ss js b .normal) hk ?_);unfold Oper.wp at h⊢;generalize (execOp a.eval o).run P w=r at h⊢;cases r with
  |ok n w'=>cases n<;>exact h
  |halt x w'=>cases x<;>exact h
  .exact .inr ⟨h,h3⟩
 .rename_i hw;rw[aP hw]at h;exact hk _ _ h
def PH(hr:kI o=false){b:Bool}(hb:ks.contains i=b)(h:wpList P ops (kb P ops Q ks w0 rs ss js b) [o] a w):bA P ops Q ks w0 rs ss ((i,o)::js) a w:=λhl=>by
 have h2:∀p∈js,ops[p.1]?=some p.2:=λp hp=>hl p (fB _ hp);have ho:=hl _ eP;rw[mkT,aP (by simp[pM,hr]),aP (by rw[hr];decide)];cases b with
|true=>
  rw[aQ hb];exact F2 h (λa' w'⟨R,tt,hm,hi,hk⟩=>⟨_,hi rfl,hm,hk h2⟩) ho
|false=>
  rw[aP (by rw[hb];decide)];exact F2 h (λa' w'⟨R,tt,hm,_,hk⟩=>⟨_,hm,hk h2⟩) ho
def DG:∀{l:bt}{i:Nat},i<l.length->l[i]?=some (nth l i)
|_::_,0,_=>rfl
|_::l,i+1,h=>by rw[l7,nth];exact DG GU
def H3:∀{l m:bt}{i:Nat},(∀j:Nat,l[j]?=m[i+j]?)->∀p∈si l i,m[p.1]?=some p.2
|[],_,_,_,p,hp=>by cases hp
|o::l,m,i,h,p,hp=>by
  rcases dh.1 hp with rfl|hp
  .simpa using (h 0).symm
  .exact H3 (l:=l) (i:=i+1) (λj=>by have:=h (j+1);rw[l7]at this;rw[this];congr 1;omega) p hp
def DA{l:bt}:∀{od:b9},od.all (λi=>decide (i<l.length))=true->∀p∈sel l od,l[p.1]?=some p.2
|[],_,p,hp=>by cases hp
|i::od,h,p,hp=>by
  rw[List.all_cons,cR]at h;rcases dh.1 hp with rfl|hp
  .exact DG (by simpa using h.1)
  .exact DA h.2 p hp
def D0{l:bt}:∀{od:b9},od.all (λi=>decide (i<l.length))=true->∀p∈pick l od,l[p.1]?=some p.2
|[],_,p,hp=>H3 (λj=>by simp) p hp
|_::_,h,p,hp=>DA h p hp
def seqB(ks od:b9)(l:bt):Bool:=od.all (λi=>decide (i<l.length))&&(Region.noSelect l.toArray&&decide ((mkT ks l.length (pick l od)).depth=l.toArray.size)&&(!(Array.replicate l.toArray.size false).getD (mN ks l.length (pick l od)) false&&eL l.toArray (mN ks l.length (pick l od)) (Qv l.toArray (mN ks l.length (pick l od))) (Array.replicate l.toArray.size false) (mkT ks l.length (pick l od))))
def Uc{ks od:b9}(hO:Own w0 w rs ss)(hm:P.follows .mixedOrders=true)(hB:seqB ks od l=true)(hQ:∀c a d v w,Q (.panic c) (a.put d v) w->Q (.panic c) a w)
  (h:∀w',Own w0 w' rs ss->bA P l.toArray Q ks w0 rs ss (pick l od) a w'):(Code.region id l.toArray true).wp P Q a w:=by
 rw[seqB,cR]at hB;obtain⟨h0,hB⟩:=hB;simp only[cR,iR]at hB;exact Kv (mN ks l.length (pick l od)) (mkT ks l.length (pick l od)) (λW=>Own w0 W rs ss) hm hB.1.1 hB.1.2 (by simpa using hB.2) hQ (hO.drawn _) (h _ (hO.drawn _) (λp hp=>by rw[<-cE];exact D0 h0 p hp))
inductive En:ae->Nat->ai->ai->ae->Prop where
|head {g:Nat} {cs cs':ai} {rs:ae}:En ((g,cs)::rs) g cs cs' ((g,cs')::rs)
|tail {g:Nat} {cs cs':ai} {r:O9} {rs R:ae}:En rs g cs cs' R->En (r::rs) g cs cs' (r::R)
|app {g:Nat} {cs cs':ai} {X rs R:ae}:En rs g cs cs' R->En (X++rs) g cs cs' (X++R)
def En.idx{rs:ae}{R:ae}(h:En rs g cs cs' R):∃i,rs[i]?=some (g,cs)/\R=rs.set i (g,cs'):=by
 induction h with
|head=>exact⟨0,rfl,rfl⟩
|tail _ ih=>obtain⟨i,h1,h2⟩:=ih;exact⟨i+1,h1,by rw[h2];rfl⟩
|@app _ _ _ X rs R _ ih=>
  obtain⟨i,h1,h2⟩:=ih;exact⟨X.length+i,by rw[lW FP,qZ];exact h1,by rw[h2,ru _ _ FP,qZ]⟩
def IR(q:Ob)(l:ac)(T:ar):ai:=(vs q l++T).toArray
def kz{l:ac}(h:k<l.length):(IR q l T)[k]?=some (.int q (gi l k)):=by
 rw[IR,jI,kF (by rw[Ai];exact h)];exact Fg q l k h
def Zg{l:ac}{x:Int}(h:k<l.length):(IR q l T).setIfInBounds k (.int q x)=IR q (l.set k x) T:=by
 rw[IR,IR,lY,zk _ _ (by rw[Ai];exact h),aK]
inductive Ld(P:O8):TypeId->ai->Nat->Value->Prop where
|one {t:O4} {cs:ai} {off:Nat} {v:NY} (ht:ET P t) (hv:cs.toList[off]?=some v):Ld P t cs off v
|byt {t:O4} {l:ac} {off:Nat} (ht:ET P t) (h:off<l.length):Ld P t (B l) off (.int .u8 (gi l off))
|jn {t:O4} {q:Ob} {l:ac} {k:Nat} (ht:ET P t) (h:k<l.length):Ld P t (J q l) k (.int q (gi l k))
|ints {t:O4} {q:Ob} {l:ac} {T:ar} {k:Nat} (ht:ET P t) (h:k<l.length):Ld P t (IR q l T) k (.int q (gi l k))
|all {t:O4} {cs:ai} (ht:Aq P t cs.size):Ld P t cs 0 (.agg cs)
|two {t:O4} {cs:ai} {off:Nat} {x y:NY} (ht:Aq P t 2) (h0:cs.toList[off]?=some x) (h1:cs.toList[off+1]?=some y):Ld P t cs off (.agg #[x,y])
def DB{t:O4}{x:O7}(ho:o.op=.load t x)(hm:Own w0 w rs ss)(hx:a.eval x=.pointer (some ⟨g,off,none⟩))(hr:En rs g cs cs' R)(h:Ld P t cs off v):(execOp a.eval o).run P w=.ok (.value v) w:=by
 obtain⟨i,h1,_⟩:=hr.idx;cases h with
|one ht hv=>exact ld i hm ho hx h1 ht Io
|byt ht h=>exact ld i hm ho hx h1 ht (Zd _ _ h)
|ints ht h=>exact ld i hm ho hx h1 ht (kz h)
|jn ht h=>exact ld i hm ho hx h1 ht (XC _ _ _ h)
|all ht=>exact eK i hm ho hx h1 ht
|two ht h0 h2=>exact jb i hm ho hx h1 ht Io Io
inductive jx(P:O8):TypeId->ai->Nat->Value->ai->Prop where
|one {t:O4} {cs:ai} {l m:ar} {off:Nat} {v:NY} (ht:ET P t) (hl:cs=l.toArray) (hf:off<l.length) (hc:v.cells=#[v]) (h1:v.oneCell'=true) (hn:l.set off v=m):jx P t cs off v m.toArray
|jn {t:O4} {q:Ob} {l:ac} {k:Nat} {x:Int} (ht:ET P t) (h:k<l.length):jx P t (J q l) k (.int q x) (J q (l.set k x))
|ints {t:O4} {q:Ob} {l:ac} {T:ar} {k:Nat} {x:Int} (ht:ET P t) (h:k<l.length):jx P t (IR q l T) k (.int q x) (IR q (l.set k x) T)
|all {t:O4} {cs:ai} {us:ar} (ht:Aq P t us.length) (hs:us.length=cs.size) (h1:us.all Value.oneCell'=true):jx P t cs 0 (.agg us.toArray) us.toArray
|part {t:O4} {cs ns:ai} {off:Nat} {us:ar} (ht:Aq P t us.length) (hf:off+us.length<=cs.size) (h1:us.all Value.oneCell'=true) (hn:puts cs off us=ns):jx P t cs off (.agg us.toArray) ns
def Ru{t:O4}{x y:O7}(ho:o.op=.store t x y){K:Value->FC->Prop}(hm:Own w0 w rs ss)(hx:a.eval x=.pointer (some ⟨g,off,none⟩))(hy:a.eval y=v)(hr:En rs g cs ns R)(h:jx P t cs off v ns)(k:∀w',Own w0 w' R ss->K undef w'):Eff P o a w K:=by
 obtain⟨i,h1,rfl⟩:=hr.idx;cases h with
|one ht hl hf hc h2 hn=>subst hl;exact AZ i hm ho hx hy h1 ht (by simpa using hf) hc h2 (by rw[lY,hn]) k
|jn ht h=>exact AZ i hm ho hx hy h1 ht (by rw[J];simp[Ai];omega) rfl rfl (by rw[J,J,lY,aK]) k
|ints ht h=>exact AZ i hm ho hx hy h1 ht (by rw[IR];simp[Ai];omega) rfl rfl (Zg h) k
|all ht hs h2=>exact Aw i hm ho hx hy h1 (by simpa using ht) Hw (Dp h2) k
|part ht hf h2 hn=>exact sn i hm ho hx hy h1 ht hf h2 (by rw[hn];exact k)
def nS:a.eval (.const v)=v:=rfl
def uL{dst:Oo}{t:O4}{x:O7}{ty:O4}{pos:String}{af:Ot}{gd:Oq}(hm:Own w0 w rs ss)(h:wpList P ops Q rest b w)(hg:MZ ⟨dst,.load t x,ty,pos,af,gd⟩ ops a:=by exact Gx)
  (hx:a.eval x=.pointer (some ⟨g,off,none⟩):=by exact Gx)(hr:En rs g cs cs R:=by exact N7)(hl:Ld P t cs off v:=by exact Nv)(hb:a.put dst v=b:=by exact gJ):wpList P ops Q (⟨dst,.load t x,ty,pos,af,gd⟩::rest) a w:=
 A8 hg (DB rfl hm hx hr hl) (hb▸h)
def uS{dst:Oo}{t:O4}{x y:O7}{ty:O4}{pos:String}{af:Ot}{gd:Oq}(hm:Own w0 w rs ss)(h:∀w'(_:Nat),Own w0 w' R ss->wpList P ops Q rest b w')(hg:MZ ⟨dst,.store t x y,ty,pos,af,gd⟩ ops a:=by exact Gx)
  (hx:a.eval x=.pointer (some ⟨g,off,none⟩):=by exact Gx)(hy:a.eval y=v:=by exact Nq)(hi:En rs g cs cs R':=by exact N7)
  (hl:jx P t cs off v ns:=by first|exact .ints (ot rfl) Hq|exact .jn (ot rfl) Hq|exact .one (ot rfl) Gx G5 Gx Gx (by(try simp only[EP,ku]);rfl)|exact .all (ag rfl) Gx Gx|exact .part (ag rfl) G5 Gx (by(try simp only[puts,s3]);rfl))(hr:En rs g cs ns R:=by exact N7)(hb:a.put dst undef=b:=by exact gJ):wpList P ops Q (⟨dst,.store t x y,ty,pos,af,gd⟩::rest) a w:=
 Ad hg (Ru rfl hm hx hy hr hl λw' hw=>hb▸h w' 0 hw)
def uB{b:Nat->Act}{dst:Oo}{t:O4}{x:O7}{ty:O4}{pos:String}{af:Ot}{gd:Oq}(hm:Own w0 w rs ss)(h:∀w' g,Own w0 w' ((g,cs)::rs) ss->wpList P ops Q rest (b g) w')(hg:MZ ⟨dst,.box t x,ty,pos,af,gd⟩ ops a:=by exact Gx)
  (hx:a.eval x=.agg cs:=by exact Gx)(hb:∀g,a.put dst (.pointer (some ⟨g,0,none⟩))=b g:=by exact Nj):wpList P ops Q (⟨dst,.box t x,ty,pos,af,gd⟩::rest) a w:=
 Ad hg (xD hm rfl hx λw' g hw=>by rw[hb g];exact h w' g hw)
def uA{b:Nat->Act}{dst:Oo}{t:O4}{ty:O4}{pos:String}{af:Ot}{gd:Oq}(hm:Own w0 w rs ss)(h:∀w' g,Own w0 w' ((g,cs)::rs) ss->wpList P ops Q rest (b g) w')(hg:MZ ⟨dst,.alloc t,ty,pos,af,gd⟩ ops a:=by exact Gx)
  (hz:∀w,(zeroValue t).run P w=.ok (.agg cs) w:=by first|exact nf|exact YP|exact R8)(hb:∀g,a.put dst (.pointer (some ⟨g,0,none⟩))=b g:=by exact Nj):wpList P ops Q (⟨dst,.alloc t,ty,pos,af,gd⟩::rest) a w:=
 Ad hg (Dl hm rfl hz λw' g hw=>by rw[hb g];exact h w' g hw)
def Tu{t:O4}(ho:o.op=.alloc t)(hm:Own w0 w rs ss)(hz:∀w,(zeroValue t).run P w=.ok v w){K:Value->FC->Prop}(h:∀w' g,Own w0 w' ((g,v.cells)::rs) ss->K (.pointer (some ⟨g,0,none⟩)) w'):Eff P o a w K:=by
 refine Eff.val (v:=.pointer (some ⟨w.heap.size,0,none⟩)) (w':=w.alloc (.cells v.cells t)) ?_ (h _ _ (hm.alloc v.cells t));unfold execOp;simp only[ho,Instr.alloc,newVar,newRow,aL,bw,hz,aS];rfl
def RQ(w:FC):(zeroValue 3).run prog w=.ok (.int .i64 0) w:=FZ
def W5(w:FC):(zeroValue 311).run prog w=.ok (.pointer none) w:=FZ
def u1{b:Nat->Act}{dst:Oo}{t:O4}{ty:O4}{pos:String}{af:Ot}{gd:Oq}(hm:Own w0 w rs ss)(h:∀w' g,Own w0 w' ((g,cs)::rs) ss->wpList P ops Q rest (b g) w')(hg:MZ ⟨dst,.alloc t,ty,pos,af,gd⟩ ops a:=by exact Gx)
  (hz:∀w,(zeroValue t).run P w=.ok v w:=by first|exact RQ|exact W5)(hc:v.cells=cs:=by exact Gx)(hb:∀g,a.put dst (.pointer (some ⟨g,0,none⟩))=b g:=by exact Nj):wpList P ops Q (⟨dst,.alloc t,ty,pos,af,gd⟩::rest) a w:=
 Ad hg (Tu rfl hm hz λw' g hw=>by rw[hb g];exact h w' g (hc▸hw))
def u2{b:Nat->Act}{dst:Oo}{t:O4}{x:O7}{ty:O4}{pos:String}{af:Ot}{gd:Oq}(hm:Own w0 w rs ss)(h:∀w' g,Own w0 w' ((g,cs)::rs) ss->wpList P ops Q rest (b g) w')(hg:MZ ⟨dst,.box t x,ty,pos,af,gd⟩ ops a:=by exact Gx)
  (hx:a.eval x=v:=by exact Nl)(hc:v.cells=cs:=by exact Gx)(hb:∀g,a.put dst (.pointer (some ⟨g,0,none⟩))=b g:=by exact Nj):wpList P ops Q (⟨dst,.box t x,ty,pos,af,gd⟩::rest) a w:=by
 refine Ad hg (Eff.val (v:=.pointer (some ⟨w.heap.size,0,none⟩)) (w':=w.alloc (.cells v.cells t)) ?_ ?_)
 .unfold execOp;simp only[hx,Instr.box,aL,bw];rfl
 .rw[hb,hc];exact h _ _ (hm.alloc cs t)
def AG{t bytes:Nat}{q:Oy}{x y:O7}(ho:o.op=.indexAddr t x y)(he:OW P t e 1 bytes q z)(hx:a.eval x=.slice g n c)(hy:a.eval y=.int qk zz)(hz:zz=k)(hk:k<n):(execOp a.eval o).run P w=.ok (.value (.pointer (some ⟨g,k,none⟩))) w:=by
 have:=db (P:=P) (w:=w) ho he hx hy hz hk;rwa[dA]at this
def uI(k:Nat){dst:Oo}{t:O4}{x y:O7}{ty:O4}{pos:String}{af:Ot}{gd:Oq}{bytes:Nat}(h:wpList prog ops Q rest b w)(hg:MZ ⟨dst,.indexAddr t x y,ty,pos,af,gd⟩ ops a:=by exact Gx)
  (he:∃q,OW prog t e 1 bytes q z:=by exact NC)(hx:a.eval x=.slice g n c:=by exact Gx)(hy:a.eval y=.int qk zz:=by exact Gx)(hz:zz=k:=by omega)(hk:k<n:=by omega)
  (hb:a.put dst (.pointer (some ⟨g,k,none⟩))=b:=by exact gJ):wpList prog ops Q (⟨dst,.indexAddr t x y,ty,pos,af,gd⟩::rest) a w:=by
 obtain⟨q,he⟩:=he;exact A8 hg (AG rfl he hx hy hz hk) (hb▸h)
def uJ(k:Nat){dst:Oo}{t:O4}{x y:O7}{ty:O4}{pos:String}{af:Ot}{gd:Oq}{bytes:Nat}(h:bA prog ops Q ks w0 rs ss js b w)(hg:MZ ⟨dst,.indexAddr t x y,ty,pos,af,gd⟩ ops a:=by exact Gx)
  (he:∃q,OW prog t e 1 bytes q z:=by exact NC)(hx:a.eval x=.slice g n c:=by exact Gx)(hy:a.eval y=.int qk zz:=by exact Gx)(hz:zz=k:=by omega)(hk:k<n:=by omega)
  (hb:a.put dst (.pointer (some ⟨g,k,none⟩))=b:=by exact gJ):bA prog ops Q ks w0 rs ss ((i,⟨dst,.indexAddr t x y,ty,pos,af,gd⟩)::js) a w:=by
 obtain⟨q,he⟩:=he;exact j1 rfl hg (λW=>AG rfl he hx hy hz hk) (hb▸h)
def BS{t:Nat}{x y:O7}(ho:o.op=.indexAddr t x y)(hu:P.underlying t=some (.array n e))(hs:(P.info? e).map (·.size)=some 1)(hx:a.eval x=.pointer g)(hy:a.eval y=.int q zz)(hz:zz=k)(hk:k<n):(execOp a.eval o).run P w=.ok (.value (.pointer (some ⟨g,k,none⟩))) w:=by
 subst hz;cases hi:P.info? e with
|none=>rw[hi]at hs;cases hs
|some i=>
  rw[hi]at hs;have hs:i.size=1:=by simpa using hs
  unfold execOp;simp only[ho,hx,hy,Instr.indexAt,asIntOf,aL,bw,aS,bL hu,Instr.sureAddr];simp[show(k:Int)<(n:Int) by omega,sizeOf,typeInfo,hi,hs,Result.andThen,fQ]
def uH(k:Nat){dst:Oo}{t:Nat}{x y:O7}{ty:O4}{pos:String}{af:Ot}{gd:Oq}(h:wpList prog ops Q rest b w)(hg:MZ ⟨dst,.indexAddr t x y,ty,pos,af,gd⟩ ops a:=by exact Gx)
  (hu:prog.underlying t=some (.array n e):=by exact NH)(hs:(prog.info? e).map (·.size)=some 1:=by kernel_rfl)(hx:a.eval x=.pointer g:=by exact Gx)(hy:a.eval y=.int qk zz:=by exact Gx)(hz:zz=k:=by omega)(hk:k<n:=by omega)
  (hb:a.put dst (.pointer (some ⟨g,k,none⟩))=b:=by exact gJ):wpList prog ops Q (⟨dst,.indexAddr t x y,ty,pos,af,gd⟩::rest) a w:=
 A8 hg (BS rfl hu hs hx hy hz hk) (hb▸h)
def nF(k:Nat){dst:Oo}{t:Nat}{x y:O7}{ty:O4}{pos:String}{af:Ot}{gd:Oq}(h:bA prog ops Q ks w0 rs ss js b w)(hg:MZ ⟨dst,.indexAddr t x y,ty,pos,af,gd⟩ ops a:=by exact Gx)
  (hu:prog.underlying t=some (.array n e):=by exact NH)(hs:(prog.info? e).map (·.size)=some 1:=by kernel_rfl)(hx:a.eval x=.pointer g:=by exact Gx)(hy:a.eval y=.int qk zz:=by exact Gx)(hz:zz=k:=by omega)(hk:k<n:=by omega)
  (hb:a.put dst (.pointer (some ⟨g,k,none⟩))=b:=by exact gJ):bA prog ops Q ks w0 rs ss ((i,⟨dst,.indexAddr t x y,ty,pos,af,gd⟩)::js) a w:=
 j1 rfl hg (λW=>BS rfl hu hs hx hy hz hk) (hb▸h)
def uR(h:bA P ops Q ks w0 rs ss js b w)(hr:pM o=true:=by exact Gx)(hw:MZ o ops a:=by exact Gx)(hrun:∀W,(execOp a.eval o).run P W=.ok (.value v) W:=by intro W;go_simp;first|rw[aZ _ FP];done|rw[aZ _ FP];rfl|rfl)(hb:a.put o.dst v=b:=by exact gJ):bA P ops Q ks w0 rs ss ((i,o)::js) a w:=j1 hr hw hrun (hb▸h)
def uM{dst:Oo}{t:O4}{x:O7}{ty:O4}{pos:String}{af:Ot}{gd:Oq}(h:bA P ops Q ks w0 rs ss js b w)(hg:MZ ⟨dst,.load t x,ty,pos,af,gd⟩ ops a:=by exact Gx)
  (hx:a.eval x=.pointer (some ⟨g,off,none⟩):=by exact Gx)(hr:En rs g cs cs R:=by exact N7)(hl:Ld P t cs off v:=by exact Nv)(hb:a.put dst v=b:=by exact gJ):bA P ops Q ks w0 rs ss ((i,⟨dst,.load t x,ty,pos,af,gd⟩)::js) a w:=
 oE rfl rfl hg (λW hm=>DB rfl hm hx hr hl) (hb▸h)
def uP(h:bA P ops Q ks w0 rs ss js b w)(hr:kI o=true:=by exact Gx)(hw:Region.wanted o (yielded ops a.tmps)=false:=by exact Gx)(hb:a.put o.dst undef=b:=by exact gJ):bA P ops Q ks w0 rs ss ((i,o)::js) a w:=Aif hr hw (hb▸h)
def uE{b:Bool}(h:wpList P ops (kb P ops Q ks w0 rs ss js b) [o] a w)(hr:kI o=false:=by exact Gx)(hb:ks.contains i=b:=by exact Gx):bA P ops Q ks w0 rs ss ((i,o)::js) a w:=PH hr hb h
def uT(ks od:b9)(hm:Own w0 w rs ss)(h:∀w'(_:Nat),Own w0 w' rs ss->bA prog l.toArray Q ks w0 rs ss js a w')(hB:seqB ks od l=true:=by exact Nb)(hj:pick l od=js:=by exact Np)(hf:prog.follows .mixedOrders=true:=by rfl)(hQ:∀c a d v w,Q (.panic c) (a.put d v) w->Q (.panic c) a w:=by exact Nk):(Code.region id l.toArray true).wp prog Q a w:=
 Uc hm hf hB hQ λw' hw=>hj▸h w' 0 hw
def uN{b:Bool}(hm:Own w0 w R tt)(h:bA P ops Q ks w0 R tt js a w)(hb:b=false:=by exact Gx):kb P ops Q ks w0 rs ss js b .normal a w:=⟨_,_,hm,λh=>(by rw[hb]at h;cases h),h⟩
def uK{b:Bool}(hm:Own w0 w R tt)(h:bA P ops Q ks w0 R tt js a w)(hs:∀W,Own w0 W R tt->Own w0 W rs ss:=by first|exact λ_ h=>h|exact λ_ h=>h.dropRow):kb P ops Q ks w0 rs ss js b .normal a w:=⟨_,_,hm,λ_=>hs,h⟩
variable{dst:Oo}{t:O4}{x y:O7}{ty:O4}{pos:String}{af:Ot}{gd:Oq}
def g1(h:wpList P ops Q (⟨dst,.load t x,ty,pos,af,gd⟩::rest) a w):wpList P ops Q (⟨dst,.load t x,ty,pos,af,gd⟩::rest) a w:=h
def g2(h:wpList P ops Q (⟨dst,.store t x y,ty,pos,af,gd⟩::rest) a w):wpList P ops Q (⟨dst,.store t x y,ty,pos,af,gd⟩::rest) a w:=h
def g3(h:wpList P ops Q (⟨dst,.box t x,ty,pos,af,gd⟩::rest) a w):wpList P ops Q (⟨dst,.box t x,ty,pos,af,gd⟩::rest) a w:=h
def g4(h:wpList P ops Q (⟨dst,.alloc t,ty,pos,af,gd⟩::rest) a w):wpList P ops Q (⟨dst,.alloc t,ty,pos,af,gd⟩::rest) a w:=h
def g5(h:(Code.region id ops true).wp P Q a w):(Code.region id ops true).wp P Q a w:=h
def g6(h:bA P ops Q ks w0 rs ss ((i,o)::js) a w):bA P ops Q ks w0 rs ss ((i,o)::js) a w:=h
def g7(h:bA P ops Q ks w0 rs ss ((i,⟨dst,.load t x,ty,pos,af,gd⟩)::js) a w):bA P ops Q ks w0 rs ss ((i,⟨dst,.load t x,ty,pos,af,gd⟩)::js) a w:=h
end
def U{G H:Prop}(k:H)(h:H->G:=by
 intro k
 first
 |((with_reducible refine g1 ?_);exact uL hm k)
 |((with_reducible refine g2 ?_);exact uS hm k)
 |((with_reducible refine g3 ?_);first|exact uB hm k|exact u2 hm k)
 |((with_reducible refine g4 ?_);first|exact uA hm k|exact u1 hm k)
 |((with_reducible refine g5 ?_);exact uT [] [] hm k)
 |((with_reducible refine g7 ?_);exact uM k)
 |((with_reducible refine g6 ?_);first|exact uR k|exact uP k|exact uE k)
 |with_reducible exact uN hm k
 |with_reducible exact uK hm k
 |with_reducible exact IN k):G:=h k
end
section
variable{ops:bl}{Q:Exit->aJ}{a:OA}{w w0:FC}{rs R:ae}{ss:O1}{rest:bt}{v:NY}{dst:Oo}{t:O4}{x y:O7}{ty:O4}{pos:String}{af:Ot}{gd:Oq}{e:O4}{z:NY}{bytes:Nat}
def el3:∃i,Gv prog 124 3 i (.int .i64 0) 8:=Gv.ex underlying124 FZ rfl
def xc:∃i,Gv prog 22 5 i (.int .u8 0) 1:=Gv.ex underlying22 FZ rfl
def uV{b:Nat->Act}(hm:Own w0 w rs ss)(h:∀w' g,Own w0 w' ((g,#[v])::rs) ss->wpList prog ops Q rest (b g) w')(hg:MZ ⟨dst,.buildSlice t 1 #[(0,x)],ty,pos,af,gd⟩ ops a:=by exact Gx)(he:∃i,Gv prog t e i z bytes:=by exact NK)(hx:a.eval x=v:=by exact Nl)(hv:v.cells=#[v]:=by exact Gx)
  (hb:∀g,a.put dst (.slice (some ⟨g,0,none⟩) 1 1)=b g:=by exact Nj):wpList prog ops Q (⟨dst,.buildSlice t 1 #[(0,x)],ty,pos,af,gd⟩::rest) a w:=by
 obtain⟨i,he⟩:=he;exact Ad hg (JQ hm rfl he hx hv λw' g hw=>by rw[hb g];exact h w' g hw)
def uG{b:Option Addr->Nat->Act}{g n:Nat}{u:NY}{xs:ar}(hm:Own w0 w ((g,#[u])::rs) ((v,e,xs)::ss))(h:∀w' ad c,Own w0 w' rs ((.slice ad (n+1) c,e,xs++[u])::ss)->wpList prog ops Q rest (b ad c) w')(hg:MZ ⟨dst,.call {callee:=.builtin .append,args:=#[x,y],argTypes:=#[t,t]},ty,pos,af,gd⟩ ops a:=by exact Gx)
  (he:∃i,Gv prog t e i z bytes:=by exact NK)(hx:a.eval x=v:=by exact Gx)(hy:a.eval y=.slice g 1 1:=by exact Gx)(hn:xs.length=n:=by first|rfl|exact Ai _ _|rw[Ai];assumption)(h1:u.oneCell'=true:=by exact Gx)(hs:n<=1000000:=by omega)(hby:bytes<=100:=by decide)(hq:e<Ey:=by simp[Ey])
  (hb:∀ad c,a.put dst (.slice ad (n+1) c)=b ad c:=by intro ad c;(try simp only[Act.put,s3]);rfl):wpList prog ops Q (⟨dst,.call {callee:=.builtin .append,args:=#[x,y],argTypes:=#[t,t]},ty,pos,af,gd⟩::rest) a w:=by
 obtain⟨i,he⟩:=he;have hbb:(n+[u].length)*bytes<=140737488355328:=jy (Nat.mul_le_mul G8 hby) (show 1000001*100<=140737488355328 by decide);refine Ad hg (Yy 0 hm rfl he hx rfl hn hy (Src.one (hm.row 0 rfl)) (λs hs=>by rw[fC.1 hs];exact h1) (by simp only[maxLen,rU];omega) hbb (λad c w' hw=>?_) hq);have:=h w' ad c hw.dropRow;rw[<-hb ad c]at this;exact this
end
def Own.toIR{w0 w:FC}{rs:ae}{ss:O1}{v:NY}{e:O4}{q:Ob}{l:ac}(h:Own w0 w rs ((v,e,vs q l)::ss))(hl:0<l.length)(hq:e<Ey:=by simp[Ey]):∃g c T,v=.slice (some ⟨g,0,none⟩) l.length c/\l.length<=c/\Own w0 w ((g,IR q l T)::rs) ss:=by
 have hs:=(h.get 0 rfl hq).2;obtain⟨X,hX,hm⟩:=h.y3 hq;obtain⟨g,p,c,cells,rfl,e1,h1,h2,h3,h4⟩:=hX.pos (by rw[Ai];exact hl);rcases hs with⟨hv,_⟩|⟨g',c',cur,hv,_⟩
 .simp only at hv;rw[hv]at e1;cases e1
 .simp only at hv;rw[hv]at e1;cases e1;rw[Ai]at hv h1 h3;refine⟨_,_,cells.toList.drop l.length,hv,h1,?_⟩
  have e2:IR q l (cells.toList.drop l.length)=cells:=by
   rw[IR];apply Array.ext_getElem?;intro j;rw[jI];by_cases hj:j<l.length
   .have:=h4 j KA;rw[dA]at this;rw[kF KA,this]
   .rw[lW (by rw[Ai];omega),Ai,qB,show l.length+(j-l.length)=j by omega,cE]
  rw[e2];exact hm
section
variable{l:bt}{f id:Nat}{r:O9}
section
variable{P:O8}{ops:bl}{Q:Exit->aJ}{a:OA}{w w0:FC}{rs r0:ae}{ss:O1}{js:OB}{ks:b9}
def Kd(ks od:b9)(hm:Own w0 w rs ss)(hs:∀W,Own w0 W rs ss->Own w0 W r0 ss)(h:∀w'(_:Nat),Own w0 w' rs ss->bA prog l.toArray Q ks w0 r0 ss js a w')(hB:seqB ks od l=true:=by exact Nb)(hj:pick l od=js:=by exact Np)(hf:prog.follows .mixedOrders=true:=by rfl)(hQ:∀c a d v w,Q (.panic c) (a.put d v) w->Q (.panic c) a w:=by exact Nk):(Code.region id l.toArray true).wp prog Q a w:=by
 rw[seqB,cR]at hB;obtain⟨h0,hB⟩:=hB;simp only[cR,iR]at hB;exact Kv (mN ks l.length (pick l od)) (mkT ks l.length (pick l od)) (λW=>Own w0 W r0 ss) hf hB.1.1 hB.1.2 (by simpa using hB.2) hQ (hs _ (hm.drawn _)) ((hj▸h _ 0 (hm.drawn _)) (λp hp=>by rw[<-cE];exact D0 h0 p hp))
def TO{b:Bool}(hm:Own w0 w rs ss)(hs:Own w0 w rs ss->Own w0 w r0 ss)(h:bA P ops Q ks w0 r0 ss js a w):kb P ops Q ks w0 r0 ss js b .normal a w:=⟨_,_,hs hm,λ_ _ h=>h,h⟩
def oW:bt->Nat->b9
|[],_=>[]
|o::l,i=>if kI o then oW l (i+1)else i::oW l (i+1)
def Qx(l:bt):Bool:=l.any λo=>match o.op with
|.store _ _ _=>true
|_=>false
def uTe{ks:b9}(hm:Own w0 w rs ss)(h:∀w'(_:Nat),Own w0 w' rs ss->bA prog l.toArray Q ks w0 rs ss js a w')(he:oW l 0=ks:=by exact NQ)(hB:seqB ks [] l=true:=by exact Nb)(hn:Qx l=false:=by exact Nb)(hj:pick l []=js:=by exact Np)(hQ:∀c a d v w,Q (.panic c) (a.put d v) w->Q (.panic c) a w:=by exact Nk):(Code.region id l.toArray true).wp prog Q a w:=uT ks [] hm h hB hj (by rfl) hQ
def uTd{ks:b9}(hm:Own w0 w (r::rs) ss)(h:∀w'(_:Nat),Own w0 w' (r::rs) ss->bA prog l.toArray Q ks w0 rs ss js a w')(he:oW l 0=ks:=by exact NQ)(hB:seqB ks [] l=true:=by exact Nb)(hj:pick l []=js:=by exact Np)(hQ:∀c a d v w,Q (.panic c) (a.put d v) w->Q (.panic c) a w:=by exact Nk):(Code.region id l.toArray true).wp prog Q a w:=Kd ks [] hm (λ_ h=>h.dropRow) h hB hj (by rfl) hQ
def uC{us:ai}{v:NY}{F:Ending->FC->Prop}(hc:Hid (∀w,ak f us w (RB w v)))(hm:Own w0 w rs ss)(k:∀w'(_:Nat),Own w0 w' rs ss->F (.returned v) w'):ak f us w F:=(hc.out w).mono λx w'⟨e,hb⟩=>by subst e;exact k w' 0 (hm.call hb)
def g9{b:Bool}(h:kb P ops Q ks w0 rs ss js b .normal a w):kb P ops Q ks w0 rs ss js b .normal a w:=h
def g8{us:ai}{F:Ending->FC->Prop}(h:Calls P f us w F):Calls P f us w F:=h
variable{R:ae}{rest:bt}{o:Oz}{i:Nat}{dst:Oo}{t:O4}{x:O7}{ty:O4}{pos:String}{af:Ot}{gd:Oq}{g off:Nat}{cs:ai}{u0 u1 u2:NY}{b:OA}
def C'(ho:o.op=.load t x)(hm:Own w0 w rs ss)(hx:a.eval x=.pointer (some ⟨g,off,none⟩))(hr:En rs g cs cs R)(ht:Aq P t 3)(h0:cs.toList[off]?=some u0)(h1:cs.toList[off+1]?=some u1)(h2:cs.toList[off+2]?=some u2):(execOp a.eval o).run P w=.ok (.value (.agg #[u0,u1,u2])) w:=by
 obtain⟨i,h,_⟩:=hr.idx;exact ld3 hm ho hx h ht Io Io Io
def Si(hm:Own w0 w rs ss)(h:wpList P ops Q rest b w)(hg:MZ ⟨dst,.load t x,ty,pos,af,gd⟩ ops a:=by exact Gx)(hx:a.eval x=.pointer (some ⟨g,off,none⟩):=by exact Gx)(hr:En rs g cs cs R:=by exact N7)(ht:Aq P t 3:=by exact ag rfl)(h0:cs.toList[off]?=some u0:=by exact Gx)(h1:cs.toList[off+1]?=some u1:=by exact Gx)(h2:cs.toList[off+2]?=some u2:=by exact Gx)(hb:a.put dst (.agg #[u0,u1,u2])=b:=by exact gJ):wpList P ops Q (⟨dst,.load t x,ty,pos,af,gd⟩::rest) a w:=A8 hg (C' rfl hm hx hr ht h0 h1 h2) (hb▸h)
def uM3(h:bA P ops Q ks w0 rs ss js b w)(hg:MZ ⟨dst,.load t x,ty,pos,af,gd⟩ ops a:=by exact Gx)(hx:a.eval x=.pointer (some ⟨g,off,none⟩):=by exact Gx)(hr:En rs g cs cs R:=by exact N7)(ht:Aq P t 3:=by exact ag rfl)(h0:cs.toList[off]?=some u0:=by exact Gx)(h1:cs.toList[off+1]?=some u1:=by exact Gx)(h2:cs.toList[off+2]?=some u2:=by exact Gx)(hb:a.put dst (.agg #[u0,u1,u2])=b:=by exact gJ):bA P ops Q ks w0 rs ss ((i,⟨dst,.load t x,ty,pos,af,gd⟩)::js) a w:=oE rfl rfl hg (λW hm=>C' rfl hm hx hr ht h0 h1 h2) (hb▸h)
variable{R':ae}{v:NY}{ns us:ai}{y:O7}
def uZ{p:Prop}(h:p:=by first|assumption|exact Hid.out Gq):p:=h
def QG(hm:Own w0 w rs ss)(h:wpList P ops Q rest b w)(hg:MZ ⟨dst,.load t x,ty,pos,af,gd⟩ ops a:=by exact Gx)(hx:a.eval x=.pointer (some ⟨g,off,none⟩):=by exact Gx)(hr:En rs g cs cs R:=by exact N7)(ht:ET P t:=by exact ot rfl)(hv:cs[off]?=some v:=by exact NR)(hb:a.put dst v=b:=by exact gJ):wpList P ops Q (⟨dst,.load t x,ty,pos,af,gd⟩::rest) a w:=by
 obtain⟨i,h1,_⟩:=hr.idx;exact A8 hg (ld i hm rfl hx h1 ht hv) (hb▸h)
def WD(h:bA P ops Q ks w0 rs ss js b w)(hg:MZ ⟨dst,.load t x,ty,pos,af,gd⟩ ops a:=by exact Gx)(hx:a.eval x=.pointer (some ⟨g,off,none⟩):=by exact Gx)(hr:En rs g cs cs R:=by exact N7)(ht:ET P t:=by exact ot rfl)(hv:cs[off]?=some v:=by exact NR)(hb:a.put dst v=b:=by exact gJ):bA P ops Q ks w0 rs ss ((i,⟨dst,.load t x,ty,pos,af,gd⟩)::js) a w:=by
 obtain⟨k,h1,_⟩:=hr.idx;exact oE rfl rfl hg (λW hm=>ld k hm rfl hx h1 ht hv) (hb▸h)
def uLp(hm:Own w0 w rs ss)(h:wpList P ops Q rest b w)(hg:MZ ⟨dst,.load t x,ty,pos,af,gd⟩ ops a:=by exact Gx)(hx:a.eval x=.pointer (some ⟨g,off,none⟩):=by exact Gx)(hr:En rs g cs cs R:=by exact N7)(hv:cs.extract off (off+us.size)=us:=by exact NS)(ht:Aq P t us.size:=by exact NU)(hf:off+us.size<=cs.size:=by exact NV)(hb:a.put dst (.agg us)=b:=by exact gJ):wpList P ops Q (⟨dst,.load t x,ty,pos,af,gd⟩::rest) a w:=by
 obtain⟨i,h1,_⟩:=hr.idx;exact A8 hg (cg i hm rfl hx h1 hv ht hf) (hb▸h)
def uMp(h:bA P ops Q ks w0 rs ss js b w)(hg:MZ ⟨dst,.load t x,ty,pos,af,gd⟩ ops a:=by exact Gx)(hx:a.eval x=.pointer (some ⟨g,off,none⟩):=by exact Gx)(hr:En rs g cs cs R:=by exact N7)(hv:cs.extract off (off+us.size)=us:=by exact NS)(ht:Aq P t us.size:=by exact NU)(hf:off+us.size<=cs.size:=by exact NV)(hb:a.put dst (.agg us)=b:=by exact gJ):bA P ops Q ks w0 rs ss ((i,⟨dst,.load t x,ty,pos,af,gd⟩)::js) a w:=by
 obtain⟨k,h1,_⟩:=hr.idx;exact oE rfl rfl hg (λW hm=>cg k hm rfl hx h1 hv ht hf) (hb▸h)
def uSf(hm:Own w0 w rs ss)(h:∀w'(_:Nat),Own w0 w' R ss->wpList P ops Q rest b w')(hg:MZ ⟨dst,.store t x y,ty,pos,af,gd⟩ ops a:=by exact Gx)(hx:a.eval x=.pointer (some ⟨g,off,none⟩):=by exact Gx)(hy:a.eval y=v:=by exact Nq)(hi:En rs g cs cs R':=by exact N7)(ht:ET P t:=by exact ot rfl)(hf:off<cs.size:=by first|exact Es uZ|exact JX uZ|exact Dz uZ|exact kD uZ|exact Ct uZ)(hn:cs.setIfInBounds off v=ns:=by first|exact GY uZ|exact IE uZ|exact GX uZ|exact ah uZ|exact Is uZ)(hc:v.cells=#[v]:=by exact Gx)(h1:v.oneCell'=true:=by exact Gx)(hr:En rs g cs ns R:=by exact N7)(hb:a.put dst undef=b:=by exact gJ):wpList P ops Q (⟨dst,.store t x y,ty,pos,af,gd⟩::rest) a w:=by
 obtain⟨i,h2,e⟩:=hr.idx;subst e;exact Ad hg (AZ i hm rfl hx hy h2 ht hf hc h1 hn λw' hw=>hb▸h w' 0 hw)
def SE(hm:Own w0 w rs ss)(h:∀w'(_:Nat),Own w0 w' R ss->wpList P ops Q rest b w')(hg:MZ ⟨dst,.store t x y,ty,pos,af,gd⟩ ops a:=by exact Gx)(hx:a.eval x=.pointer g:=by exact Gx)(hy:a.eval y=.agg us:=by exact Nq)(hi:En rs g cs cs R':=by exact N7)(ht:Aq P t us.size:=by first|exact ag rfl|exact Eo|exact Bq uZ|exact DT uZ|exact F5 uZ|exact BJ uZ|exact F6 _ uZ|exact mY uZ|exact mv uZ|exact gh uZ|exact mR uZ|exact wj uZ)(hs:us.size=cs.size:=by first|exact rfl|exact yS|exact Ce uZ Az|exact Ce uZ uZ|exact jN uZ Az|exact jN uZ uZ|exact WC uZ Az|exact WC uZ uZ|exact BR uZ BF|exact BR uZ uZ)(h1:∀v∈us,v.oneCell'=true:=by first|exact Ak uZ|exact Di|exact Eb|exact J_one|exact ep|exact Ut)(hr:En rs g cs us R:=by exact N7)(hb:a.put dst undef=b:=by exact gJ):wpList P ops Q (⟨dst,.store t x y,ty,pos,af,gd⟩::rest) a w:=by
 obtain⟨i,h2,e⟩:=hr.idx;subst e;exact Ad hg (Aw i hm rfl hx hy h2 ht hs h1 λw' hw=>hb▸h w' 0 hw)
end
def UV{G H:Prop}(k:H)(h:H->G:=by
 intro k
 first
 |((with_reducible refine g8 ?_);exact uC (by with_reducible assumption) hm k)
 |((with_reducible refine g1 ?_);first|exact uL hm k|exact QG hm k|exact uL hm k (hl:=.all dM)|exact Si hm k|exact uLp hm k)
 |((with_reducible refine g2 ?_);first|exact uS hm k|exact uSf hm k|exact SE hm k)
 |((with_reducible refine g3 ?_);first|exact uB hm k|exact u2 hm k)
 |((with_reducible refine g4 ?_);first|exact uA hm k|exact u1 hm k|exact uA hm k (hz:=Jz)|exact uA hm k (hz:=QA)|exact uA hm k (hz:=NB)|exact uA hm k (hz:=Cd)|exact uA hm k (hz:=rx)|exact uA hm k (hz:=Cl)|exact uA hm k (hz:=aC)|exact uA hm k (hz:=yn)|exact uA hm k (hz:=VY)|exact uA hm k (hz:=S6)|exact uA hm k (hz:=UA)|exact uA hm k (hz:=Sv)|exact uA hm k (hz:=Vj)|exact uA hm k (hz:=Ja)|exact uA hm k (hz:=YG)|exact uA hm k (hz:=Uw)|exact uA hm k (hz:=Wf)|exact uA hm k (hz:=XA)|exact uA hm k (hz:=Su)|exact uA hm k (hz:=ry)|exact uA hm k (hz:=tj)|exact uA hm k (hz:=Zu)|exact uA hm k (hz:=a12)|exact uA hm k (hz:=WF)|exact uA hm k (hz:=VX))
 |((with_reducible refine g5 ?_);first|exact uT [] [] hm k|exact uTe hm k|exact uTd hm k)
 |((with_reducible refine g7 ?_);first|exact uM k|exact WD k|exact uM k (hl:=.all dM)|exact uM3 k|exact uMp k)
 |((with_reducible refine g6 ?_);first|exact uR k|exact uP k|exact uE k)
 |((with_reducible refine g9 ?_);first|with_reducible exact uN hm k|with_reducible exact uK hm k|exact uK hm k|exact uK hm k (λ_ h=>h.dropRow.dropRow))
 |with_reducible exact IN k):G:=h k
end
section
variable{e:Bool}{used x:Int}{l:ac}{ss:O1}{bit c g gr k m p:Nat}{ad:Ov}{rs:ae}{w w0:FC}
def i8:∃i,Gv prog 22 5 i (.int .u8 0) 1:=Md
def Tail(X:ae)(v:NY)(l:ac):Prop:=(v=.slice none 0 0/\l=[]/\X=[])\/∃g p c cells,X=[(g,cells)]/\v=.slice (some ⟨g,p,none⟩) l.length c/\l.length<=c/\p+c<=cells.size/\∀j,j<l.length->cells[p+j]?=some (.int .u8 (gi l j))
def Tail.shape{X:ae}{v:NY}(h:Tail X v l):∃ad c,v=.slice ad l.length c:=by
 rcases h with⟨rfl,rfl,_⟩|⟨g,p,c,cells,_,rfl,_⟩
 .exact⟨_,_,rfl⟩
 .exact⟨_,_,rfl⟩
@[reducible] def RD (v:NY) (bit used:Int) (e:Bool):ai:=#[v,.int .i64 bit,.int .i64 used,.bool e]
def Qt(hm:Own w0 w rs ss):ak 34 #[] w λx w'=>∃gr,x=.returned (.pointer (some ⟨gr,0,none⟩))/\Own w0 w' ((gr,RD (.slice none 0 0) 0 0 false)::rs) ss:=by
 go_enter func34,ntmps34
 go_wp2_with(refine UV ?_;try(clear hm;intro w gp hm))
 go_ret;exact⟨_,rfl,hm⟩
def jS{v:NY}{bit:Int}(rs:ae)(hm:Own w0 w ((gr,RD v bit used e)::rs) ss):ak 133 #[gr] w (RO (.bool e) w0 ((gr,RD v bit used e)::rs) ss):=by
 go_enter func133,ntmps133
 exact x7
def BY{v:NY}{bit:Int}(hm:Own w0 w ((gr,RD v bit used e)::rs) ss):ak 95 #[gr] w (RO (.int .i64 used) w0 ((gr,RD v bit used e)::rs) ss):=by
 go_enter func95,ntmps95
 exact x7
def a0O{v:NY}{bit:Int}(hm:Own w0 w ((gr,RD v bit used false)::rs) ss):ak 37 #[gr] w (RO (.bool true) w0 ((gr,RD v bit used true)::rs) ss):=by
 go_enter func37,ntmps37
 exact x7
def fH(n:Nat)(bit:Int)(hm:Own w0 w ((gr,RD (.slice ad n c) bit used e)::rs) ss)(hn:n<=100000000)(h0:0<=bit)(h7:bit<=7):ak 132 #[gr] w (RO (.int .i64 ((n:Int)*8-bit)) w0 ((gr,RD (.slice ad n c) bit used e)::rs) ss):=by
 go_enter func132,ntmps132
 go_wp2_with(refine UV ?_;try(clear hm;intro w gp hm))
 exact gR
def big(l:ac):Int:=l.foldl (λv c=>v*256+c) 0
def wraps_u64(n:Int)(h0:0<=n)(h1:n<2^64):IntKind.u64.wrap n=n:=lu n FP
def Ti(x y:Int)(h0:0<=x)(h1:x<=255)(g0:0<=y)(g1:y<=255):bits .or .u64 (x*256) y=x*256+y:=
 rW .u64 64 FU wraps_u64 8 (x*256) y FP FP FP g0 FP FP
def ZI(h:Bytes l)(j:Nat):0<=gi l j/\gi l j<=255:=by
 by_cases hj:j<l.length
 .rw[BZ l j hj];have:=h _ (dF hj);omega
 .simp[gi,iQ (tV hj)]
def and7(h0:0<=x)(h1:x<9223372036854775808):bits .and .i64 x 7=x%8:=uX .i64 63 FU (λn h0 h1=>aZ n FP) 3 FU x h0 h1
def RA(l:ac)(k:Nat)(h:k<l.length):big (l.take (k+1))=big (l.take k)*256+gi l k:=by
 rw[FQ l k h,big,lG];rfl
def a1C(x:Int)(W:Nat)(hx0:0<=x)(hx:x<65536)(hW:W<=8):bits .and .u64 (x/2^m) (IntKind.u64.wrap (IntKind.u64.wrap (2^W)-1))%4294967296=x/2^m%2^W:=by
 have hp:(0:Int)<2^m:=nN FU;have h1:0<=x/2^m:=Ep hx0 FP;have h2:x/2^m<=x:=Et _ hx0;have hw1:(0:Int)<2^W:=nN FU;have hw2:(2:Int)^W<=2^8:=by exact_mod_cast jD (FU:0<2) hW
 rw[lu (2^W) FP,lu _ FP,uX .u64 64 FU wraps_u64 W FP _ h1 FP];have:=Int.emod_nonneg (x/2^m) (show(2:Int)^W≠0 by omega);have:=Int.emod_lt_of_pos (x/2^m) hw1;omega
def pk(l:ac)(bit W:Nat):Int:=big (l.take ((bit+W+7)/8))/2^((bit+W+7)/8*8-bit-W)%2^W
def UW(l:ac)(h:l.length<=2)(hb:∀x∈l,0<=x/\x<=255):0<=big l/\big l<65536:=by
 match l,h,hb with
|[],_,_=>simp[big]
|[a],_,hb=>have:=hb a G5;simp[big];omega
|[a,b],_,hb=>have:=hb a G5;have:=hb b G5;simp[big];omega
def oC(hb:Bytes l)(h:k<m)(hm:m<=2):0<=big (l.take k)/\big (l.take k)<=255:=by
 by_cases hk:k=0
 .subst hk;simp[big]
 .have hk1:k=1:=FP
  subst hk1;have h0:=ZI hb 0;cases l with
 |nil=>simp[big]
 |cons a l=>simp[big,gi]at h0⊢;exact h0
def Tw{W:Nat}{cells:ai}(hm:Own w0 w ((gr,RD (.slice (some ⟨g,p,none⟩) l.length c) bit used e)::(g,cells)::rs) ss)(hc:l.length<=c)(hcells:∀j,j<l.length->cells[p+j]?=some (.int .u8 (gi l j)))(hB:Bytes l)(hl:l.length<=100000000)(hb:bit<=7)(hW:W<=8)(hW1:1<=W)(hf:bit+W<=8*l.length):ak 208 #[gr,.int .i64 W] w (RO (.tuple #[.int .u32 (pk l bit W),.bool true]) w0 ((gr,RD (.slice (some ⟨g,p,none⟩) l.length c) bit used e)::(g,cells)::rs) ss):=by
 have q1:decide ((W:Int)<0)=false:=an;have q2:decide (32<(W:Int))=false:=an;have q3:decide ((l.length:Int)*8-bit<W)=false:=an;have CL:Hid (∀{w},Own w0 w ((gr,RD (.slice (some ⟨g,p,none⟩) l.length c) bit used e)::(g,cells)::rs) ss->ak 132 #[gr] w (RO (.int .i64 ((l.length:Int)*8-bit)) w0 ((gr,RD (.slice (some ⟨g,p,none⟩) l.length c) bit used e)::(g,cells)::rs) ss)):=λhm=>fH _ _ hm hl FP FP;have HC:=aa hcells;have HB:=aa hB;clear hcells hB;go_enter func208,ntmps208
 go_wp2_with(first
  |(go_at_call 132;have _t:=hm;refine(CL.o hm).mono ?_;clear _t;clear hm;rintro e w⟨rfl,hm⟩)
  |with_reducible refine wl _ 0 hm ?_
   )
 obtain⟨many,hmany⟩:∃many:Nat,many=(bit+W+7)/8:=⟨_,rfl⟩;have hm2:many<=2:=FP
 have hm3:many<=l.length:=FP
 rw[show((bit:Int)+(W:Int)+7)/8=((many:Nat):Int) by omega,<-hmany];have HM:=aa hmany;clear hmany;obtain⟨i5,hE⟩:=Md;have HE:=aa hE;clear hE
 go_loopw[6,41] (λz u wr=>∃k:Nat,k<=many/\u=.int .i64 k/\z=.int .u64 (big (l.take k))/\Own w0 wr ((gr,RD (.slice (some ⟨g,p,none⟩) l.length c) bit used e)::(g,cells)::rs) ss) (λ_ u _=>many-(intOf u).toNat)
 case atStart=>exact⟨0,FP,rfl,rfl,hm⟩
 case round=>
  clear hm;obtain⟨k,hk,rfl,rfl,hm⟩:=hrel;by_cases hlt:k<many
  .have hA:=(hm.row 1 rfl).cell (p+k);rw[HC.o k FP]at hA;have hAA:‹World›.cell? (({block:=g,off:=p}:Addr).add k)=some (.int .u8 (gi l k)):=by rw[fQ];exact hA
   clear hA;have hbk:=oC HB.o hlt hm2;have HS:=aa (RA l k FP);generalize big (l.take k)=x at*;have hgb:=ZI HB.o k;generalize gi l k=y at*
   go_wp2_with(first
   |refine A8 rfl (Am rfl HE.o rfl rfl rfl hlt) ?_
   |refine A8 rfl (AU rfl rfl (ot rfl) hAA) ?_)
   rw[Ti x y hbk.1 hbk.2 hgb.1 hgb.2,<-HS.o];go_roundw
   case rel=>exact⟨k+1,FP,by go_num,rfl,hm⟩
   case measure=>simp[intOf];omega
  .obtain rfl:k=many:=FP
   have hbt:=UW (l.take k) G8 (λx hx=>by have:=HB.o x (jB hx);omega);have HP:Hid (pk l bit W=big (l.take k)/2^(k*8-bit-W)%2^W):=aa (by rw[pk,<-HM.o]);have HX:=aa hbt;clear hbt;have s1:bit+W<=k*8:=by have:=HM.o;omega
   have s2:k*8<=16:=FP
   clear hlt;generalize big (l.take k)=x at*
   go_wp2_with((with_reducible refine wl _ 0 hm ?_))
   rw[a1C x W HX.o.1 HX.o.2 hW,<-HP.o]
   go_ret2
   exact⟨rfl,hm⟩
def Ui(w0:FC)(gr:Nat)(X rs:ae)(ss:O1)(l:ac)(bit W:Nat)(used:Int)(e:Bool)(x:Ending)(w':FC):Prop:=
 x=.returned (.tuple #[.int .u32 (pk l bit W),.bool true])/\∃v',Tail X v' (l.drop ((bit+W)/8))/\Own w0 w' ((gr,RD v' (((bit+W)%8:Nat):Int) (used+W) e)::(X++rs)) ss
def Tail.sub{cells:ai}(hc:l.length<=c)(hs:p+c<=cells.size)(hcells:∀j,j<l.length->cells[p+j]?=some (.int .u8 (gi l j)))(hk:k<=l.length):Tail [(g,cells)] (.slice (D8 (some ⟨g,p,none⟩) c k) (l.length-k) (c-k)) (l.drop k):=by
 refine .inr ?_;by_cases h:c=k
 .refine⟨g,p,0,cells,rfl,by rw[D8,aQ h,h];simp,by simp;omega,FP,λj hj=>?_⟩;simp at hj;omega
 .refine⟨g,p+k,c-k,cells,rfl,by rw[D8,aP h,jE,fQ,dQ],by simp;omega,FP,λj hj=>?_⟩;rw[dQ]at hj;rw[gG,hcells (k+j) FP];simp[gi]
def VU{X:ae}{v:NY}{W:Nat}(rs:ae)(hm:Own w0 w ((gr,RD v bit used e)::(X++rs)) ss)(ht:Tail X v l)(hB:Bytes l)(hl:l.length<=100000000)(hb:bit<=7)(hW:W<=8)(hW1:1<=W)(hu0:0<=used)(hu1:used<=100000000000)(hf:bit+W<=8*l.length):ak 166 #[gr,.int .i64 W] w (Ui w0 gr X rs ss l bit W used e):=by
 rcases ht with⟨rfl,rfl,rfl⟩|⟨g,p,c,cells,rfl,rfl,hc,hs,hcells⟩
 .simp at hf;omega
 simp only[s2]at hm;have CP:Hid (∀{w},Own w0 w ((gr,RD (.slice (some ⟨g,p,none⟩) l.length c) bit used e)::(g,cells)::rs) ss->ak 208 #[gr,.int .i64 W] w (RO (.tuple #[.int .u32 (pk l bit W),.bool true]) w0 ((gr,RD (.slice (some ⟨g,p,none⟩) l.length c) bit used e)::(g,cells)::rs) ss)):=λhm=>Tw hm hc hcells hB hl hb hW hW1 hf;have HC:Hid (∀k,k<=l.length->Tail [(g,cells)] (.slice (D8 (some ⟨g,p,none⟩) c k) (l.length-k) (c-k)) (l.drop k)):=λk hk=>Tail.sub hc hs hcells hk;clear hcells hs;obtain⟨k,hk⟩:∃k:Nat,k=(bit+W)/8:=⟨_,rfl⟩;have k1:k<=l.length:=FP
 have k2:k<=c:=FP
 have HK:Hid (((bit:Int)+W)/8=(k:Int)):=aa FP;have HK2:=aa hk;clear hk;have HM2:Hid (bits .and .i64 ((bit:Int)+W) 7=(((bit+W)%8:Nat):Int)):=aa (by rw[and7 FP FP];push_cast;rfl);obtain⟨y,hy⟩:∃y,y=pk l bit W:=⟨_,rfl⟩;rw[<-hy]at CP;have HY:=aa hy;clear hy;obtain⟨i5,hE⟩:=Md;have HE:=aa hE;clear hE;go_enter func166,ntmps166
 go_upto_region 6 with(first
  |(go_at_call 208;have _t:=hm;refine(CP.o hm).mono ?_;clear _t;clear hm;rintro e w⟨rfl,hm⟩)
  |with_reducible refine wl _ 0 hm ?_
  |refine Ad rfl (AZ 0 hm rfl rfl (Ac rfl) rfl (ot rfl) G5 rfl rfl rfl ?_);clear hm;intro w hm;try simp only[s2,List.set,List.eraseIdx,s3]at hm
   )
 refine rO hm 13 (.am [(0,false),(1,false),(2,false),(3,false),(4,true),(5,false),(6,false),(7,false),(8,true),(9,false),(10,false),(11,false),(12,false)] (.brk 13 14 .done)) ?_;clear hm;intro w hm;simp only[KT.am]
 iterate 4 refine kq ?_
 refine km (λW hm=>ld 0 hm rfl rfl rfl (ot rfl) rfl) ?_
 iterate 3 refine kq ?_
 refine km (λW hm=>ld 0 hm rfl rfl rfl (ot rfl) rfl) ?_
 refine bj rfl rfl (λW=>by go_simp;((rw[HK.o];done))) ?_
 try simp only[Act.put,s3]
 refine bj rfl rfl (λW=>ew (l:=k) rfl HE.o rfl (.inr ⟨_,rfl⟩) (.inl ⟨rfl,rfl⟩) k1 hc) ?_
 try simp only[Act.put,s3]
 iterate 2 refine kq ?_
 ((refine Em rfl rfl (AZ 0 hm rfl rfl (Ac rfl) rfl (ot rfl) G5 rfl rfl rfl ?_)))
 clear hm;intro w hm
 try simp only[s2,List.set,List.eraseIdx,s3]at hm
 refine⟨λW=>Own _ W _ _,hm,?_⟩
 try simp only[Act.put,s3]
 refine Ba ?_;go_simp
 go_wp2_with(first
  |with_reducible refine wl _ 0 hm ?_
  |refine Ad rfl (AZ 0 hm rfl rfl (Ac rfl) rfl (ot rfl) G5 rfl rfl rfl ?_);clear hm;intro w hm;try simp only[s2,List.set,List.eraseIdx,s3]at hm
   )
 rw[HM2.o]at hm;unfold Ui;rw[<-HY.o]
 go_ret2
 exact⟨rfl,_,by rw[<-HK2.o];exact HC.o k k1,hm⟩
def nZ{v:NY}{W:Nat}(hm:Own w0 w ((gr,RD v bit used e)::rs) ss)(hv:∃ad c,v=.slice ad l.length c)(hl:l.length<=100000000)(hb:bit<=7)(hW:W<=8)(hW1:1<=W)(hf:8*l.length<bit+W):ak 208 #[gr,.int .i64 W] w (RO (.tuple #[.int .u32 0,.bool false]) w0 ((gr,RD v bit used e)::rs) ss):=by
 obtain⟨ad,c,rfl⟩:=hv;have q1:decide ((W:Int)<0)=false:=an;have q2:decide (32<(W:Int))=false:=an;have q3:decide ((l.length:Int)*8-bit<W)=true:=az;have CL:Hid (∀{w},Own w0 w ((gr,RD (.slice ad l.length c) bit used e)::rs) ss->ak 132 #[gr] w (RO (.int .i64 ((l.length:Int)*8-bit)) w0 ((gr,RD (.slice ad l.length c) bit used e)::rs) ss)):=λhm=>fH _ _ hm hl FP FP;go_enter func208,ntmps208
 go_wp2_with((go_at_call 132;have _t:=hm;refine(CL.o hm).mono ?_;clear _t;clear hm;rintro e w⟨rfl,hm⟩))
 go_ret2
 exact⟨rfl,hm⟩
def nY{X:ae}{v:NY}{W:Nat}(rs:ae)(hm:Own w0 w ((gr,RD v bit used e)::(X++rs)) ss)(ht:Tail X v l)(hl:l.length<=100000000)(hb:bit<=7)(hW:W<=8)(hW1:1<=W)(hu0:0<=used)(hu1:used<=100000000000)(hf:8*l.length<bit+W):ak 166 #[gr,.int .i64 W] w (RO (.tuple #[.int .u32 0,.bool false]) w0 ((gr,RD v bit used e)::(X++rs)) ss):=by
 have CP:Hid (∀{w},Own w0 w ((gr,RD v bit used e)::(X++rs)) ss->ak 208 #[gr,.int .i64 W] w (RO (.tuple #[.int .u32 0,.bool false]) w0 ((gr,RD v bit used e)::(X++rs)) ss)):=λhm=>nZ hm ht.shape hl hb hW hW1 hf;go_enter func166,ntmps166
 go_wp2_with((go_at_call 208;have _t:=hm;refine(CP.o hm).mono ?_;clear _t;clear hm;rintro e w⟨rfl,hm⟩))
 go_ret2
 exact⟨rfl,hm⟩
def Wq(w0:FC)(gr:Nat)(X rs:ae)(ss:O1)(l:ac)(bit:Nat)(used:Int)(e:Bool)(x:Ending)(w':FC):Prop:=
 x=.returned (.tuple #[.int .u32 (pk l bit (8-bit)),.int .i64 ((8-bit:Nat):Int)])/\∃v',Tail X v' (l.drop 1)/\Own w0 w' ((gr,RD v' 0 (used+(8-bit:Nat)) e)::(X++rs)) ss
def o8{X:ae}{v:NY}(hm:Own w0 w ((gr,RD v 0 used e)::(X++rs)) ss)(ht:Tail X v l)(hB:Bytes l)(hl:l.length<=100000000)(hu0:0<=used)(hu1:used<=100000000000):ak 131 #[gr] w (RO (.tuple #[.int .u32 0,.int .i64 0]) w0 ((gr,RD v 0 used e)::(X++rs)) ss):=by
 go_enter func131,ntmps131
 exact rh
def o7{X:ae}{v:NY}(bit:Nat)(hm:Own w0 w ((gr,RD v bit used e)::(X++rs)) ss)(ht:Tail X v l)(hB:Bytes l)(hl:l.length<=100000000)(hb:bit<=7)(hu0:0<=used)(hu1:used<=100000000000)(h1:1<=bit)(hne:1<=l.length):ak 131 #[gr] w (Wq w0 gr X rs ss l bit used e):=by
 have q1:((bit:Int)==0)=false:=by simp;omega
 obtain⟨W,hWe⟩:∃W:Nat,W=8-bit:=⟨_,rfl⟩;have CT:Hid (∀{w},Own w0 w ((gr,RD v bit used e)::(X++rs)) ss->ak 166 #[gr,.int .i64 W] w (Ui w0 gr X rs ss l bit W used e)):=λhm=>VU _ hm ht hB hl hb FP FP hu0 hu1 FP;have e1:IntKind.i64.wrap (8-(bit:Int))=(W:Int):=by rw[aZ _ FP];omega
 have HW:=aa hWe;have HZ:Hid ((bit+W)/8=1/\(bit+W)%8=0):=aa ⟨FP,FP⟩;have e2:8-(bit:Int)=(W:Int):=FP
 clear hWe;go_enter func131,ntmps131
 go_wp2_with(first
 |(go_at_call 166;have _t:=hm;refine(CT.o hm).mono ?_;clear _t;clear hm;rintro e w⟨rfl,v2,ht2,hm⟩)
 |refine UV ?_;try(clear hm;intro w gp hm))
 go_ret2
 rw[HZ.o.1]at ht2;rw[HZ.o.2]at hm;unfold Wq;rw[<-HW.o];exact⟨rfl,v2,ht2,hm⟩
end
section
variable{bit used:Int}{l:ac}{ss:O1}{gq gr n:Nat}{rs:ae}{u:NY}{w w0:FC}
def Tail.lies{X:ae}{v:NY}(h:Tail X v l):Lies 1 X v l.length (vs .u8 l):=by
 refine⟨by simp[vs],?_⟩;rcases h with⟨rfl,rfl,rfl⟩|⟨g,p,c,cells,rfl,rfl,hc,hs,hcells⟩
 .exact .inl ⟨rfl,rfl,rfl,rfl⟩
 .exact .inr ⟨g,p,c,cells,rfl,rfl,hc,FP,λj hj=>by rw[Ai]at hj;rw[hcells j hj,Fg _ _ j hj]⟩
def Tail.qd{X:ae}{v:NY}(h:Lies 1 X v n (vs .u8 l)):Tail X v l:=by
 have hn:n=l.length:=by have:=h.1;simp[vs]at this;omega
 subst hn;rcases h.2 with⟨rfl,hx,hn,rfl⟩|⟨g,p,c,cells,rfl,rfl,hc,hs,hcells⟩
 .exact .inl ⟨rfl,l9.1 hn,rfl⟩
 .exact .inr ⟨g,p,c,cells,rfl,rfl,hc,FP,λj hj=>by rw[hcells j KA,Fg _ _ j hj]⟩
def VD(w0:FC)(gr gq:Nat)(u:NY)(rs:ae)(ss:O1)(l:ac)(bit used:Int)(x:Ending)(w':FC):Prop:=
 x=.returned (.bool true)/\∃X v,Tail X v l/\Own w0 w' ((gr,RD v bit used false)::(gq,#[u])::(X++rs)) ss
def A2D{X:ae}{v:NY}(m:ac)(hm:Own w0 w ((gr,RD v bit used false)::(gq,#[u])::(X++rs)) ss)(ht:Tail X v l)(hu:∀W,Own w0 W ((gr,RD v bit used false)::(gq,#[u])::(X++rs)) ss->Src W u (vs .u8 m))(hl:l.length+m.length<=100000000):ak 36 #[gr,.slice gq 1 1] w (VD w0 gr gq u rs ss (l++m) bit used):=by
 have HT:=aa ht.lies;have HU:Hid (∀W,Own w0 W ((gr,RD v bit used false)::(gq,#[u])::(X++rs)) ss->From 1 W u m.length (vs .u8 m)):=λW h=>by have:=From.tK (hu W h);rwa[Ai]at this
 clear ht hu;obtain⟨i5,hE⟩:=nP;have HE:=aa hE;obtain⟨i7,hE7⟩:=wO;have HE7:=aa hE7;clear hE hE7;go_enter func36,ntmps36
 go_wp2_with(refine UV ?_;try(clear hm;intro w gp hm))
 go_loopw[17] (λz wr=>(z=.int .i64 0/\Own w0 wr ((gr,RD v bit used false)::(gq,#[u])::(X++rs)) ss)\/(z=.int .i64 1/\∃X v,Tail X v (l++m)/\Own w0 wr ((gr,RD v bit used false)::(gq,#[u])::(X++rs)) ss)) (λz _=>1-(intOf z).toNat)
 case atStart=>exact .inl ⟨rfl,hm⟩
 case round=>
  clear hm;rcases hrel with⟨rfl,hm⟩|⟨rfl,X2,v2,ht2,hm⟩
  .have hA:‹World›.cell? (({block:=gq,off:=0}:Addr).add 0)=some u:=by rw[fQ];exact(hm.row 1 rfl).cell 0
   go_wp2_with(first
   |refine A8 rfl (Am (k:=0) rfl HE7.o rfl rfl rfl FP) ?_
   |refine A8 rfl (AU rfl rfl (ot rfl) hA) ?_
   |(refine Ad rfl (GR (A:=[_,_]) hm rfl HE.o (Ac rfl) HT.o (Ac rfl) HU.o (Ic _ _) FP FP FP ?_);clear hm;intro X2 v2 w hX hm;simp only[s2]at hm;obtain⟨ad2,c2,rfl⟩:=hX.shape)
   |refine UV ?_;try(clear hm;intro w gp hm))
   rw[qy]at hX;go_roundw
   case rel=>exact .inr ⟨by go_num,_,_,Tail.qd hX,hm⟩
   case measure=>simp[intOf]
  .go_wp2;go_ret;exact⟨rfl,X2,v2,ht2,hm⟩
end
section
variable{x:Int}{l m:ac}{ss:O1}{c g i p:Nat}{rs:ae}{w w0:FC}
def dm(l:ac)(k:Nat):ac:=(List.range l.length).map λi=>if i<k\/l.length-k<=i then gi l (l.length-1-i)else gi l i
def F7(l:ac)(k:Nat):(dm l k).length=l.length:=by simp[dm]
def PG(l:ac)(k i:Nat)(h:i<l.length):gi (dm l k) i=if i<k\/l.length-k<=i then gi l (l.length-1-i)else gi l i:=by simp[gi,dm,h]
def t8(h:l.length=m.length)(g:∀i,i<l.length->gi l i=gi m i):l=m:=by
 apply qA h;intro i h1 h2;have:=g i h1;rwa[BZ l i h1,BZ m i h2]at this
def wo{j:Nat}(h:i<l.length):gi (l.set i x) j=if i=j then x else gi l j:=by
 by_cases hij:i=j
 .subst hij;simp[gi,h]
 .simp[gi,hij]
def Rw(l:ac):dm l 0=l:=t8 (F7 l 0) (λi hi=>by
 rw[F7]at hi
 rw[PG l 0 i hi,aP FP])
def rY(l:ac)(k:Nat)(h:k<l.length-1-k):((dm l k).set k (gi (dm l k) (l.length-1-k))).set (l.length-1-k) (gi (dm l k) k)=dm l (k+1):=by
 refine t8 (by simp[F7]) (λi hi=>?_);rw[cO,cO,F7]at hi;rw[wo (by rw[cO,F7];omega),wo (by rw[F7];omega),PG l (k+1) i hi,PG l k i hi,PG l k (l.length-1-k) FP,PG l k k FP];rw[aP (show¬(k<k\/l.length-k<=k) by omega),aP (show¬(l.length-1-k<k\/l.length-k<=l.length-1-k) by omega)];by_cases h1:l.length-1-k=i
 .rw[aQ h1,aQ (show i<k+1\/l.length-(k+1)<=i by omega)];congr 1;omega
 .rw[aP h1];by_cases h2:k=i
  .rw[aQ h2,aQ (show i<k+1\/l.length-(k+1)<=i by omega)];congr 1;omega
  .rw[aP h2];by_cases h3:i<k\/l.length-k<=i
   .rw[aQ h3,aQ FP]
   .rw[aP h3,aP FP]
def B8(l:ac)(k:Nat)(h:l.length-1-k<=k)(hk:k<=l.length):dm l k=l.reverse:=by
 refine t8 (by simp[F7]) (λi hi=>?_);rw[F7]at hi
 have hr:gi l.reverse i=gi l (l.length-1-i):=by
  rw[BZ _ _ (by simpa using hi),BZ _ _ FP,List.getElem_reverse]
 rw[PG l k i hi,hr];by_cases h3:i<k\/l.length-k<=i
 .rw[aQ h3]
 .rw[aP h3];congr 1;omega
def kG(w0:FC)(v:NY)(l:ac)(rs:ae)(ss:O1)(x:Ending)(w':FC):Prop:=(∃u,x=.returned u)/\∃X,Lies 1 X v l.length (vs .u8 l.reverse)/\Own w0 w' (X++rs) ss
def WR{cells:ai}(hm:Own w0 w ((g,cells)::rs) ss)(hX:Lies 1 [(g,cells)] (.slice (some ⟨g,p,none⟩) l.length c) l.length (vs .u8 l))(hl:l.length<=100000000)(h0:0<l.length):ak 146 #[.slice (some ⟨g,p,none⟩) l.length c] w (kG w0 (.slice (some ⟨g,p,none⟩) l.length c) l rs ss):=by
 rw[<-Rw l]at hX;rw[Rw]at hX;have HX0:Hid (Lies 1 [(g,cells)] (.slice (some ⟨g,p,none⟩) l.length c) l.length (vs .u8 (dm l 0))):=aa (by rw[Rw];exact hX);clear hX;obtain⟨i5,hE⟩:=nP;have HE:=aa hE;clear hE;go_enter func146,ntmps146;go_wp2
 go_loopw[2,3] (λz y wr=>∃k:Nat,k<=l.length/\k<=l.length-k/\z=.int .i64 k/\y=.int .i64 ((l.length:Int)-1-k)/\∃cells,Lies 1 [(g,cells)] (.slice (some ⟨g,p,none⟩) l.length c) l.length (vs .u8 (dm l k))/\Own w0 wr ((g,cells)::rs) ss) (λz _ _=>l.length-(intOf z).toNat)
 case atStart=>exact⟨0,FP,FP,rfl,by go_num,cells,HX0.o,hm⟩
 case round=>
  clear hm HX0;obtain⟨k,hk,hk2,rfl,rfl,cells,hX,hm⟩:=hrel;by_cases hlt:k<l.length-1-k
  .have q1:decide ((k:Int)<(l.length:Int)-1-k)=true:=az;obtain⟨j,hj⟩:∃j:Nat,j=l.length-1-k:=⟨_,rfl⟩;have e1:(l.length:Int)-1-k=(j:Int):=FP
   rw[e1]at q1⊢;have hjl:j<l.length:=FP
   have hkl:k<l.length:=FP
   have hkj:k≠j:=FP
   have HS:=aa (rY l k hlt);rw[<-hj]at HS;have HJ:=aa hj;clear hj;have HX:=aa hX;clear hX;have c1:cells[p+k]?=some (.int .u8 (gi (dm l k) k)):=HX.o.cell (Fg _ _ _ (by rw[F7];exact hkl));have c2:cells[p+j]?=some (.int .u8 (gi (dm l k) j)):=HX.o.cell (Fg _ _ _ (by rw[F7];exact hjl));have C1:=aa c1;have C2:=aa c2;clear c1 c2;obtain⟨s1,X1⟩:=HX.o.put (j:=k) (by rw[Ai,F7];exact hkl) (.int .u8 (gi (dm l k) j));obtain⟨s2,X2⟩:=X1.put (j:=j) (by rw[cO,Ai,F7];exact hjl) (.int .u8 (gi (dm l k) k));rw[aK,aK,HS.o]at X2;have HX2:=aa X2;clear X1 X2;generalize gi (dm l k) k=x at*;generalize gi (dm l k) j=y at*;have d1:IntKind.i64.wrap ((j:Int)-1)=(l.length:Int)-1-((k+1:Nat):Int):=by rw[aZ _ FP];omega
   go_upto_region 3 with fail
   refine rO hm 13 (.am [(0,false),(1,false),(2,false),(3,false),(4,false),(5,false),(6,false),(7,true),(8,false),(9,false),(10,false),(11,true),(12,false)] (.brk 13 15 (.am [(14,false)] (.brk 15 16 .done)))) ?_;clear hm;intro w hm;simp only[KT.am]
   iterate 6 refine kq ?_
   refine bj rfl rfl (λW=>db (k:=j) rfl HE.o rfl rfl rfl hjl) ?_
   try simp only[Act.put,s3]
   refine km (λW hm=>ld 0 hm rfl rfl rfl (ot rfl) C2.o) ?_
   iterate 2 refine kq ?_
   refine bj rfl rfl (λW=>db (k:=k) rfl HE.o rfl rfl rfl hkl) ?_
   try simp only[Act.put,s3]
   refine km (λW hm=>ld 0 hm rfl rfl rfl (ot rfl) C1.o) ?_
   refine bj rfl rfl (λW=>db (k:=k) rfl HE.o rfl rfl rfl hkl) ?_
   try simp only[Act.put,s3]
   refine Em rfl rfl (AZ 0 hm rfl rfl (Ac rfl) rfl (ot rfl) s1 rfl rfl rfl ?_)
   clear hm;intro w hm
   try simp only[s2,List.set,List.eraseIdx,s3]at hm
   refine⟨λW=>Own _ W _ _,hm,?_⟩
   try simp only[Act.put,s3]
   refine bj rfl rfl (λW=>db (k:=j) rfl HE.o rfl rfl rfl hjl) ?_
   try simp only[Act.put,s3]
   refine Em rfl rfl (AZ 0 hm rfl rfl (Ac rfl) rfl (ot rfl) s2 rfl rfl rfl ?_)
   clear hm;intro w hm
   try simp only[s2,List.set,List.eraseIdx,s3]at hm
   refine⟨λW=>Own _ W _ _,hm,?_⟩
   try simp only[Act.put,s3]
   refine Ba ?_;go_simp;go_wp2;go_roundw
   case rel=>exact⟨k+1,FP,FP,by go_num,by go_num,_,HX2.o,hm⟩
   case measure=>simp[intOf];omega
  .have q1:decide ((k:Int)<(l.length:Int)-1-k)=false:=an;rw[B8 l k FP hk]at hX;have HX:=aa hX;clear hX;go_wp2
   go_end0
   exact⟨⟨_,rfl⟩,_,HX.o,hm⟩
end
section
variable{x:Int}{ss:O1}{g n:Nat}{rs:ae}{w w0:FC}
def From.one{v:NY}(h:AA w g #[v]):From 1 w (.slice g 1 1) 1 [v]:=by
 refine From.io h 0 rfl (λj u hj=>?_);have hl:=(gI.1 hj).1;simp at hl;subst hl;simpa using hj
def tJ{v:NY}(h:v.oneCell'=true):∀u∈[v],u.oneCell'=true:=λu hu=>by rw[fC.1 hu];exact h
def dN(n:Nat):ac:=if h:n=0 then[]else(((n%128:Nat):Int)+128)::dN (n/128)
termination_by n
decreasing_by omega
def cn(n:Nat):ac:=(((n%128:Nat):Int)::dN (n/128)).reverse
def LO(n:Nat)(h:n<2^28):(dN n).length<=4:=by
 rw[dN];split
 .simp
 rw[dN];split
 .simp
 rw[dN];split
 .simp
 rw[dN];split
 .simp
 rw[dN,dif_pos FP];simp
def ka(n:Nat)(h:n<=2147483647):(cn n).length<=5/\0<(cn n).length:=by
 have:=LO (n/128) FP;simp[cn];omega
def Lx(h0:0<=x)(h1:x<9223372036854775808):bits .and .i64 x 127=x%128:=uX .i64 63 FU (λn h0 h1=>aZ n FP) 7 FU x h0 h1
def QR(h0:0<=x)(h1:x<128):bits .or .u8 x 128=x+128:=by
 have:bits .or .u8 x 128=bits .or .u8 128 x:=by
  simp only[bits,BitVec.or_comm]
 rw[this,rW .u8 8 FU wraps_u8 7 128 x FU FU FU h0 FP FP];omega
def oe(w0:FC)(l:ac)(rs:ae)(ss:O1)(x:Ending)(w':FC):Prop:=∃X v,x=.returned v/\Lies 1 X v l.length (vs .u8 l)/\Own w0 w' (X++rs) ss
def kh(w0:FC)(l:ac)(r:NY)(rs:ae)(ss:O1)(x:Ending)(w':FC):Prop:=∃X v,x=.returned (.tuple #[v,r])/\Lies 1 X v l.length (vs .u8 l)/\Own w0 w' (X++rs) ss
def Af7(hn:n<=2147483647)(hm:Own w0 w rs ss):ak 221 #[.int .i64 n] w (kh w0 (cn n) (.int .i64 0) rs ss):=by
 have q1:decide ((n:Int)<0)=false:=an;have q2:decide (2147483647<(n:Int))=false:=an;obtain⟨i5,hE⟩:=nP;have HE:=aa hE;obtain⟨i6,hL⟩:=Md;have HL:=aa hL;have HX:=aa (Lies.nil 1);clear hE hL;go_enter func221,ntmps221
 go_wp2_with(first
  |refine Ad rfl (JQ hm rfl HL.o (Ac rfl) rfl ?_);clear hm;intro w gb hm
  |(refine Ad rfl (GR (A:=[_]) (X:=[]) hm rfl HE.o (Ac rfl) HX.o (Ac rfl) (λW h=>From.one (h.row 0 rfl)) (tJ rfl) FP FP FP ?_);clear hm;intro X2 v2 w hX2 hm;simp only[s2]at hm;replace hm:=hm.dropRow;obtain⟨ad2,c2,rfl⟩:=hX2.shape;have HX2:=aa hX2;clear hX2))
 rw[Lx FP FP]at HX2;have h0:Hid (Lies 1 X2 (.slice ad2 1 c2) 1 (vs .u8 [((n%128:Nat):Int)])):=aa (by have h:=HX2.o;rw[show(n:Int)%128%256=((n%128:Nat):Int) by omega]at h;exact h);clear HX2 HX
 go_loopw[0,2] (λz y wr=>∃(m:Nat)(acc:ac)(X:ae)(ad:Ov)(c:Nat),m<=16777216/\z=.int .i64 m/\y=.slice ad acc.length c/\acc++dN m=((n%128:Nat):Int)::dN (n/128)/\Lies 1 X y acc.length (vs .u8 acc)/\Own w0 wr (X++rs) ss) (λz _ _=>(intOf z).toNat)
 case atStart=>exact⟨n/128,[((n%128:Nat):Int)],X2,ad2,c2,FP,by push_cast;rfl,rfl,rfl,h0.out,hm⟩
 case round=>
  clear hm h0;obtain⟨m,acc,X,ad,c,hmm,rfl,rfl,hacc,hX,hm⟩:=hrel;have HX:=aa hX;have HA:=aa hacc
  have hlen:acc.length<=6:=by
   have h1:=congrArg List.length hacc;have h2:=LO (n/128) FP;simp at h1;omega
  clear hX hacc;by_cases hlt:0<m
  .have q3:decide (0<(m:Int))=true:=az;have e1:bits .or .u8 (bits .and .i64 (m:Int) 127%256) 128=((m%128:Nat):Int)+128:=by rw[Lx FP FP,show(m:Int)%128%256=((m%128:Nat):Int) by omega,QR FP FP]
   have HB:=aa e1;clear e1
   go_wp2_with(first
  |refine Ad rfl (JQ hm rfl HL.o (Ac rfl) rfl ?_);clear hm;intro w gb hm
  |(refine Ad rfl (GR (A:=[_]) (X:=X) hm rfl HE.o (Ac rfl) HX.o (Ac rfl) (λW h=>From.one (h.row 0 rfl)) (tJ rfl) FP FP FP ?_);clear hm;intro X2 v2 w hX2 hm;simp only[s2]at hm;replace hm:=hm.dropRow;obtain⟨ad2,c2,rfl⟩:=hX2.shape;have HX2:=aa hX2;clear hX2))
   rw[HB.o]at HX2;have e2:(m:Int)/128=((m/128:Nat):Int):=FP
   have HX3:=HX2.o;rw[yZ,qy]at HX3;clear HX2;have HX4:=aa HX3;clear HX3;go_roundw
   case rel=>exact⟨m/128,acc++[((m%128:Nat):Int)+128],X2,ad2,c2,FP,by rw[e2],G5,by rw[<-HA.o,aI,show dN m=(((m%128:Nat):Int)+128)::dN (m/128) by rw[dN,dif_neg FP]];rfl,by simpa using HX4.o,hm⟩
   case measure=>simp[intOf];omega
  .obtain rfl:m=0:=FP
   have e3:acc=((n%128:Nat):Int)::dN (n/128):=by have:=HA.o;rw[show dN 0=[] by rw[dN,dif_pos rfl],fF]at this;exact this
   have HE3:=aa e3;have hpos:0<acc.length:=by rw[e3];simp
   clear e3;obtain⟨g,p,c2,cells,hXe,hve,_,_,_,_⟩:=HX.o.pos hpos;cases hve;subst hXe;have CR:Hid (∀{W},Own w0 W ((g,cells)::rs) ss->ak 146 #[.slice (some ⟨g,p,none⟩) acc.length c] W (kG w0 (.slice (some ⟨g,p,none⟩) acc.length c) acc rs ss)):=λhm=>WR hm HX.o FP hpos
   go_wp2_with(first
  |(go_at_call 146;have _t:=hm;refine(CR.o hm).mono ?_;clear _t;clear hm;rintro e w⟨⟨r,rfl⟩,X3,hX3,hm⟩;have HX3:=aa hX3;clear hX3))
   go_ret2
   refine⟨X3,_,rfl,?_,hm⟩;rw[show cn n=acc.reverse by rw[cn,HE3.o],rX];exact HX3.o
end
section
variable{x:Int}{k:Ob}{l:ac}{ss:O1}{gw i n:Nat}{A rs:ae}{w w0:FC}
def Lies.gZ{X:ae}{v:NY}(h:Lies 1 X v n (vs k l))(hm:Own w0 w (A++(X++rs)) ss):In k w v l:=by
 have hn:n=l.length:=by have:=h.1;simp[vs]at this;omega
 subst hn;rcases h.2 with⟨rfl,hx,h0,rfl⟩|⟨g,p,c,cells,rfl,rfl,hc,hs,hcells⟩
 .exact⟨none,0,by rw[h0],λi hi=>FP⟩
 .refine⟨_,_,rfl,λi hi=>⟨_,rfl,?_⟩⟩;have hr:=hm.row (i:=A.length) (g:=g) (cs:=cells) G5;rw[fQ,hr.cell,hcells i (by rw[Ai];exact hi),Fg _ _ i hi]
def AP(l:ac)(i:Nat):Int:=gi l (i/8)/2^(7-i%8)%2
def AN(h0:0<=x)(h1:x<256):bits .and .u8 x 1=x%2:=uX .u8 8 FU wraps_u8 1 FU x h0 h1
def Wd(m:Nat)(h0:0<=x)(h1:x<256):0<=x/2^m/\x/2^m<256:=by
 have hp:(0:Int)<2^m:=nN FU;have:=Ep h0 (show(0:Int)<=2^m by omega);have:=Et (2^m) h0;omega
def Wl{v:NY}(hB:Bytes l)(hl:l.length<=100000000)(hi:i<8*l.length)(hin:In .u8 w v l):ak 143 #[v,.int .i64 i] w (RW w (.int .u8 (AP l i))):=by
 obtain⟨ad,c,rfl,hc⟩:=hin;obtain⟨A,rfl,hA⟩:=hc (i/8) FP;obtain⟨k,hk⟩:∃k:Nat,k=i/8:=⟨_,rfl⟩;obtain⟨q,hq⟩:∃q:Nat,q=i%8:=⟨_,rfl⟩;have hkl:k<l.length:=FP
 have hb:=hB (gi l k) (by rw[BZ l k hkl];exact dF _);have HR:Hid (AP l i=gi l k/2^(7-q)%2):=aa (by rw[AP,hk,hq]);rw[<-hk]at hA;obtain⟨b0,b1⟩:=hb;have e1:bits .and .i64 (i:Int) 7=(q:Int):=by rw[and7 FP FP];omega
 have e2:(i:Int)/8=(k:Int):=FP
 have hq7:q<=7:=FP
 have hA':=aa hA;have HE2:=aa e2;clear hc hA hk hq e2;generalize gi l k=x at*;obtain⟨i5,hE⟩:=Md;have HE:=aa hE;clear hE;go_enter func143,ntmps143
 go_wp2_with(first
 |refine A8 rfl (Am (k:=k) rfl HE.o rfl rfl HE2.o hkl) ?_
 |refine A8 rfl (AU rfl rfl (ot rfl) hA'.out) ?_)
 have hd:=Wd (7-q) b0 b1;rw[AN hd.1 hd.2,<-HR.o];exact eA
def bitsOf(l:ac)(k:Nat):ac:=(List.range k).map (AP l)
def a1K(l:ac)(k:Nat):bitsOf l (k+1)=bitsOf l k++[AP l k]:=by simp[bitsOf,List.range_succ]
def Ny{k:Nat}:(bitsOf l k).length=k:=by simp[bitsOf]
def KY(l:ac)(i:Nat):0<=AP l i/\AP l i<=1:=by unfold AP;omega
def kE(w0:FC)(l:ac)(rs:ae)(ss:O1)(x:Ending)(w':FC):Prop:=∃X v,x=.returned v/\Lies 1 X v l.length (vs .i64 l)/\Own w0 w' (X++rs) ss
def fJ{v:NY}(hm:Own w0 w rs ss)(hin:∀W,Own w0 W rs ss->In .u8 W v l)(hB:Bytes l)(hl:l.length<=1000000):ak 102 #[v] w (kE w0 (bitsOf l (8*l.length)) rs ss):=by
 obtain⟨ad,c,rfl,_⟩:=hin w hm;have CB:Hid (∀(i:Nat)W,Own w0 W rs ss->i<8*l.length->ak 143 #[.slice ad l.length c,.int .i64 i] W (RW W (.int .u8 (AP l i)))):=λi W h hi=>Wl hB FP hi (hin W h);clear hin;obtain⟨i5,hE⟩:=wM;have HE:=aa hE;obtain⟨i6,hL⟩:=nR;have HL:=aa hL;clear hE hL;go_enter func102,ntmps102;go_wp2
 go_loopw[2,7] (λz u wr=>∃(k:Nat)(X:ae)(ad:Ov)(c:Nat),k<=8*l.length/\u=.int .i64 k/\z=.slice ad k c/\Lies 1 X z k (vs .i64 (bitsOf l k))/\Own w0 wr (X++rs) ss) (λ_ u _=>8*l.length-(intOf u).toNat)
 case atStart=>exact⟨0,[],none,0,FP,rfl,rfl,Lies.nil 1,hm⟩
 case round=>
  clear hm;obtain⟨k,X,ad2,c2,hk,rfl,rfl,hX,hm⟩:=hrel;have HX:=aa hX;clear hX;by_cases hlt:k<8*l.length
  .have q3:decide ((k:Int)<8*(l.length:Int))=true:=az;have hbd:=KY l k;have HS:=aa (a1K l k);have CB2:Hid (∀W,Own w0 W (X++rs) ss->ak 143 #[.slice ad l.length c,.int .i64 k] W (RW W (.int .u8 (AP l k)))):=λW h=>CB.o k W (h.sub (bG X rs) (aY _)) hlt;generalize AP l k=y at*
   go_wp2_with(first
  |go_at_call 143;refine MW (CB2.o _ hm) ?_
  |refine Ad rfl (JQ hm rfl HL.o (Ac rfl) rfl ?_);clear hm;intro w gb hm
  |(refine Ad rfl (GR (A:=[_]) (X:=X) hm rfl HE.o (Ac rfl) HX.o (Ac rfl) (λW h=>From.one (h.row 0 rfl)) (tJ rfl) FP FP FP ?_);clear hm;intro X2 v2 w hX2 hm;simp only[s2]at hm;replace hm:=hm.dropRow;obtain⟨ad2,c2,rfl⟩:=hX2.shape;have HX2:=aa hX2;clear hX2))
   have HX3:=HX2.o;rw[yZ,qy,<-HS.o]at HX3;clear HX2;have HX4:=aa HX3;clear HX3;go_roundw
   case rel=>exact⟨k+1,X2,ad2,c2,FP,by go_num,rfl,HX4.o,hm⟩
   case measure=>simp[intOf];omega
  .obtain rfl:k=8*l.length:=FP
   go_wp2;go_ret;exact⟨X,_,rfl,by rw[Ny];exact HX.o,hm⟩
def WZ{X:ae}{v:NY}(l:ac){many:Int}(hm:Own w0 w ((gw,#[v,.int .i64 many])::(X++rs)) ss)(hX:Lies 1 X v l.length (vs .u8 l))(hl:l.length<=1000000):ak 160 #[gw] w (oe w0 l ((gw,#[v,.int .i64 many])::(X++rs)) ss):=by
 have CC:Hid (∀W,Own w0 W ((gw,#[v,.int .i64 many])::(X++rs)) ss->ak 99 #[v] W (OwnB W l)):=λW h=>clone_any l (From.src (hX.from (A:=[_]) h)) FP;clear hX;go_enter func160,ntmps160
 go_wp2_with(first
 |(go_at_call 99;have _t:=hm;refine(CC.o _ hm).mono ?_;clear _t;rintro e w1 hb;obtain⟨X2,v2,rfl,hX2,hm2⟩:=hm.mL hb;clear hm hb;have HX2:=aa hX2;clear hX2)
 |refine UV ?_;try(clear hm;intro w gp hm))
 go_ret;exact⟨X2,v2,rfl,HX2.o,hm2⟩
def ZV(v:Int){W:Int}(W0:0<=W)(W1:W<=16)(v0:0<=v)(v1:v<2^W.toNat)(w:FC):ak 241 #[.int .u32 v,.int .i64 W] w (RB w (.bool true)):=by
 have q1:(v/2^W.toNat==0)=true:=by rw[Int.ediv_eq_zero_of_lt v0 v1];rfl
 have v2:v<=65535:=by have h:(2:Int)^W.toNat<=2^16:=(by exact_mod_cast jD (FU:0<2) (show W.toNat<=16 by omega));omega
 exact Ax
end
section
variable{b:Int}{bs:ac}{i:Nat}
def byteOf(bs:ac)(j:Nat):Int:=gi bs (8*j)*128+gi bs (8*j+1)*64+gi bs (8*j+2)*32+gi bs (8*j+3)*16+gi bs (8*j+4)*8+gi bs (8*j+5)*4+gi bs (8*j+6)*2+gi bs (8*j+7)
def pack(bs:ac):ac:=(List.range ((bs.length+7)/8)).map (byteOf bs)
def Bits(bs:ac):Prop:=∀x∈bs,x=0\/x=1
def lQ(h:Bits bs)(i:Nat):0<=gi bs i/\gi bs i<=1:=by
 by_cases hi:i<bs.length
 .rw[BZ bs i hi];have:=h _ (dF hi);omega
 .simp[gi,iQ (tV hi)]
def ir(bs:ac)(i:Nat)(h:bs.length<=i):gi bs i=0:=by simp[gi,iQ h]
def tS:gi (bs++[b]) i=if i=bs.length then b else gi bs i:=by
 by_cases h:i<bs.length
 .rw[aP FP];simp[gi,kF h]
 .by_cases h2:i=bs.length
  .subst h2;simp[gi]
  .rw[aP h2,ir _ _ G8,ir _ _ FP]
def m8(bs:ac):(pack bs).length=(bs.length+7)/8:=by simp[pack]
def rI(bs:ac)(j:Nat)(h:j<(bs.length+7)/8):gi (pack bs) j=byteOf bs j:=by simp[gi,pack,h]
def pK(h:Bits bs)(j:Nat):0<=byteOf bs j/\byteOf bs j<=255:=by
 have a0:=lQ h (8*j);have a1:=lQ h (8*j+1);have a2:=lQ h (8*j+2);have a3:=lQ h (8*j+3);have a4:=lQ h (8*j+4);have a5:=lQ h (8*j+5);have a6:=lQ h (8*j+6);have a7:=lQ h (8*j+7);unfold byteOf;omega
def AdW{j:Nat}(h:bs.length<=8*j):byteOf bs j=0:=by
 unfold byteOf;rw[ir _ _ h,ir _ _ FP,ir _ _ FP,ir _ _ FP,ir _ _ FP,ir _ _ FP,ir _ _ FP,ir _ _ FP];rfl
def AdA(h:Bits bs):Bytes (pack bs):=λx hx=>by
 obtain⟨j,_,rfl⟩:=eX.1 hx;have:=pK h j;omega
def XG{j:Nat}(h:j≠bs.length/8):byteOf (bs++[b]) j=byteOf bs j:=by
 unfold byteOf;simp only[tS];rw[aP FP,aP FP,aP FP,aP FP,aP FP,aP FP,aP FP,aP FP]
def tE(bs:ac)(b:Int):byteOf (bs++[b]) (bs.length/8)=byteOf bs (bs.length/8)+b*2^(7-bs.length%8)/\byteOf bs (bs.length/8)%2^(8-bs.length%8)=0:=by
 obtain⟨q,hq⟩:∃q,q=bs.length%8:=⟨_,rfl⟩;obtain⟨j,hj⟩:∃j,j=bs.length/8:=⟨_,rfl⟩;have hl:bs.length=8*j+q:=FP
 have hq7:q<8:=FP
 have hz:∀i,bs.length<=i->gi bs i=0:=ir bs;rw[<-hq,<-hj];unfold byteOf;simp only[tS,hl];have hc:q=0\/q=1\/q=2\/q=3\/q=4\/q=5\/q=6\/q=7:=FP
 have z:=λi(h:q<=i)=>hz (8*j+i) FP;have z0:=λ(h:q<=0)=>hz (8*j) FP;rcases hc with rfl|rfl|rfl|rfl|rfl|rfl|rfl|rfl
 .rw[z0 FP,z 1 FP,z 2 FP,z 3 FP,z 4 FP,z 5 FP,z 6 FP,z 7 FP];simp
 .rw[z 1 FP,z 2 FP,z 3 FP,z 4 FP,z 5 FP,z 6 FP,z 7 FP];simp<;>omega
 .rw[z 2 FP,z 3 FP,z 4 FP,z 5 FP,z 6 FP,z 7 FP];simp<;>omega
 .rw[z 3 FP,z 4 FP,z 5 FP,z 6 FP,z 7 FP];simp<;>omega
 .rw[z 4 FP,z 5 FP,z 6 FP,z 7 FP];simp<;>omega
 .rw[z 5 FP,z 6 FP,z 7 FP];simp<;>omega
 .rw[z 6 FP,z 7 FP];simp<;>omega
 .rw[z 7 FP];simp<;>omega
def roomFor(bs:ac):ac:=if bs.length%8=0 then pack bs++[0]else pack bs
def sG(bs:ac):(roomFor bs).length=bs.length/8+1:=by
 unfold roomFor;split<;>simp[m8]<;>omega
def FG{j:Nat}:gi (roomFor bs) j=if j<bs.length/8+1 then byteOf bs j else 0:=by
 by_cases h:j<bs.length/8+1
 .rw[aQ h];unfold roomFor;split
  .rename_i h8;rw[tS,m8];by_cases h2:j=(bs.length+7)/8
   .rw[aQ h2,AdW FP]
   .rw[aP h2,rI _ _ FP]
  .rw[rI _ _ FP]
 .rw[aP h,ir _ _ (by rw[sG];omega)]
def K9(bs:ac)(b:Int):pack (bs++[b])=(roomFor bs).set (bs.length/8) (byteOf bs (bs.length/8)+b*2^(7-bs.length%8)):=by
 refine t8 (by rw[m8,cO,sG];simp;omega) (λi hi=>?_);rw[m8]at hi;simp only[aV,bD,bW]at hi;rw[rI _ _ (by simpa using hi),wo (by rw[sG];omega),FG];by_cases h:bs.length/8=i
 .rw[aQ h,<-h,(tE bs b).1]
 .rw[aP h,aQ FP,XG (λe=>h e.symm)]
end
def Uh(x b:Int)(q:Nat)(hq:q<8)(x0:0<=x)(x1:x<256)(hx:x%2^(8-q)=0)(b0:0<=b)(b1:b<=1)(hs:x+b*2^(7-q)<=255):bits .or .u8 x (b*2^(7-q))=x+b*2^(7-q):=by
 have hp:(2:Int)^(7-q)<2^(8-q):=by exact_mod_cast Nat.pow_lt_pow_right FU (show 7-q<8-q by omega)
 have hp0:(0:Int)<2^(7-q):=nN FU
 have hy:0<=b*2^(7-q)/\b*2^(7-q)<=2^(7-q):=by
  have:b=0\/b=1:=FP
  rcases this with rfl|rfl<;>simp<;>omega
 exact rW .u8 8 FU wraps_u8 (8-q) x _ x0 hx FP hy.1 FP FP
def D1{a:OA}{v:NY}:a.eval (.const v)=v:=rfl
def Bw(x:Int){b:Int}(q:Nat)(hq:q<8)(x0:0<=x)(x1:x<256)(hx:x%2^(8-q)=0)(b0:0<=b)(b1:b<=1)(hs:x+b*2^(7-q)<=255):bits .or .u8 x (IntKind.u8.wrap (b*2^(7-q)))=x+b*2^(7-q):=by
 have hp0:(0:Int)<2^(7-q):=nN FU;have h0:0<=b*2^(7-q):=tN b0 FP;rw[kM _ FP,Uh x b q hq x0 x1 hx b0 b1 hs]
section
variable{a b:Bool}{M hi lo n:Int}{w:FC}
def wi(n lo hi:Int):Bool:=decide (lo<=n/\n<=hi)
def Eu(h:lo<=n)(k:n<=hi):wi n lo hi=true:=aW ⟨h,k⟩
def Ri(h:¬(lo<=n/\n<=hi)):wi n lo hi=false:=aU h
def FX(n lo hi:Int)(w:FC):ak 100 #[.int .i64 n,.int .i64 lo,.int .i64 hi] w (RW w (.bool (wi n lo hi))):=by
 by_cases h1:lo<=n
 .have q1:decide (lo<=n)=true:=aW h1;by_cases h2:n<=hi
  .have q2:decide (n<=hi)=true:=aW h2;rw[Eu h1 h2];exact xa
  .have q2:decide (n<=hi)=false:=aU h2;rw[Ri (λh=>h2 h.2)];exact xa
 have q1:decide (lo<=n)=false:=aU h1;rw[Ri (λh=>h1 h.1)];exact xa
def QK:ak 119 #[.int .i64 n,.int .i64 lo,.int .i64 hi] w (RW w (.bool (wi n lo hi))):=by
 by_cases h1:lo<=n
 .have q1:decide (lo<=n)=true:=aW h1;by_cases h2:n<=hi
  .have q2:decide (n<=hi)=true:=aW h2;rw[Eu h1 h2];exact vv
  .have q2:decide (n<=hi)=false:=aU h2;rw[Ri (λh=>h2 h.2)];exact vv
 have q1:decide (lo<=n)=false:=aU h1;rw[Ri (λh=>h1 h.1)];exact vv
def JH(n lo hi:Int)(w:FC):ak 210 #[.int .i64 n,.int .i64 lo,.int .i64 hi] w (RW w (.bool (wi n lo hi))):=by
 by_cases h1:lo<=n
 .have q1:decide (lo<=n)=true:=aW h1;by_cases h2:n<=hi
  .have q2:decide (n<=hi)=true:=aW h2;rw[Eu h1 h2];exact xI
  .have q2:decide (n<=hi)=false:=aU h2;rw[Ri (λh=>h2 h.2)];exact xI
 have q1:decide (lo<=n)=false:=aU h1;rw[Ri (λh=>h1 h.1)];exact xI
@[reducible] def VN (V M:Int):ai:=#[.int .i64 V,.int .i64 M]
def DX(V M:Int):Bool:=if M<1\/4<M then decide (V=0/\M=0)else decide (2^(7*(M-1)).toNat<=V/\V<2^(7*M).toNat)
def rb(h:a=b):Ending.returned (.bool a)=.returned (.bool b):=by rw[h]
def aH(V:Int)(h0:0<=M)(h1:M<=4)(w:FC):ak 220 #[.agg (VN V M)] w (RB w (.bool (DX V M))):=by
 go_enter func220,ntmps220;have hm:=Own.nil w;have q0:M=0\/M=1\/M=2\/M=3\/M=4:=FP
 clear h0 h1;rcases q0 with rfl|rfl|rfl|rfl|rfl
 .go_wp2_with(first
  |(with_reducible first|refine wl _ 0 hm ?_|refine aM _ 0 hm ?_|refine wb hm ?_;clear hm;intro w g hm))
  all_goals(go_ret;exact⟨rb (by simp[DX, *]),hm.below⟩)
 .by_cases q1:1<=V
  .have q2:decide (1<=V)=true:=aW q1
   exact m9
  .have q2:decide (1<=V)=false:=aU q1
   exact m9
 .by_cases q1:128<=V
  .have q2:decide (128<=V)=true:=aW q1
   exact m9
  .have q2:decide (128<=V)=false:=aU q1
   exact m9
 .by_cases q1:16384<=V
  .have q2:decide (16384<=V)=true:=aW q1
   exact m9
  .have q2:decide (16384<=V)=false:=aU q1
   exact m9
 .by_cases q1:2097152<=V
  .have q2:decide (2097152<=V)=true:=aW q1
   exact m9
  .have q2:decide (2097152<=V)=false:=aU q1
   exact m9
end
section
variable{c:Int}{ss:O1}{n:Nat}{rs:ae}{w w0:FC}
def cj(c:Int):ac:=[c/16777216,c/65536%256,c/256%256,c%256]
def ma(c:Int)(k:Nat):ac:=(cj c).take k++List.replicate (4-k) 0
def Ahz(c:Int)(w:FC):(zeroValue 290).run prog w=.ok (.agg (B (ma c 0))) w:=by exact a0H w
def AE(c0:0<=c)(c1:c<=4294967295)(hm:Own w0 w rs ss):ak 161 #[.int .u32 c] w (oe w0 (cj c) rs ss):=by
 go_enter func161,ntmps161
 go_wp2_with(first
  |refine Ad rfl (Dl hm rfl (Ahz c) ?_);clear hm;intro w g hm)
 go_loopw[5] (λu wr=>∃k:Nat,k<=4/\u=.int .i64 k/\Own w0 wr ((g,B (ma c k))::rs) ss) (λu _=>4-(intOf u).toNat)
 case atStart=>exact⟨0,FP,rfl,hm⟩
 case round=>
  clear hm;obtain⟨k,hk,rfl,hm⟩:=hrel;have hc:k=0\/k=1\/k=2\/k=3\/k=4:=FP
  clear hk;rcases hc with rfl|rfl|rfl|rfl|rfl
  .go_wp2_with(first
   |refine Ad rfl (AZ 0 hm rfl rfl (Ac rfl) rfl (ot rfl) JO rfl rfl (ky _ _ _) ?_);clear hm;intro w hm;simp only[List.set]at hm)
   go_roundw
   case rel=>exact⟨1,FP,rfl,by simpa[ma,cj]using hm⟩
   case measure=>simp[intOf]
  .go_wp2_with(first
   |refine Ad rfl (AZ 0 hm rfl rfl (Ac rfl) rfl (ot rfl) JO rfl rfl (ky _ _ _) ?_);clear hm;intro w hm;simp only[List.set]at hm)
   go_roundw
   case rel=>exact⟨2,FP,rfl,by simpa[ma,cj]using hm⟩
   case measure=>simp[intOf]
  .go_wp2_with(first
   |refine Ad rfl (AZ 0 hm rfl rfl (Ac rfl) rfl (ot rfl) JO rfl rfl (ky _ _ _) ?_);clear hm;intro w hm;simp only[List.set]at hm)
   go_roundw
   case rel=>exact⟨3,FP,rfl,by simpa[ma,cj]using hm⟩
   case measure=>simp[intOf]
  .go_wp2_with(first
   |refine Ad rfl (AZ 0 hm rfl rfl (Ac rfl) rfl (ot rfl) JO rfl rfl (ky _ _ _) ?_);clear hm;intro w hm;simp only[List.set]at hm)
   go_roundw
   case rel=>exact⟨4,FP,rfl,by simpa[ma,cj]using hm⟩
   case measure=>simp[intOf]
  .go_wp2_with(first
   |refine A8 rfl (Iq (off:=0) rfl underlying290 (FZ:(prog.info? 5).map (·.size)=some 1) rfl 0 4 (.inl ⟨rfl,rfl⟩) (.inl ⟨rfl,rfl⟩) FP FP FP rfl rfl rfl) ?_)
   go_ret;exact⟨[(g,B (cj c))],_,rfl,Lies.whole (by simp[vs,cj]),by simpa[ma,cj]using hm⟩
def wh(most:Nat)(h1:1<=n)(h2:n<=most)(h3:most<=65536)(hm:Own w0 w rs ss):ak 185 #[.int .i64 n,.int .i64 most] w (kh w0 (cn n) (.bool true) rs ss):=by
 have CP:Hid (∀{W},Own w0 W rs ss->ak 221 #[.int .i64 n] W (kh w0 (cn n) (.int .i64 0) rs ss)):=λh=>Af7 FP h;have w1:wi n 1 most=true:=Eu FP FP;go_enter func185,ntmps185
 go_wp2_with(first
  |(go_at_call 221;have _t:=hm;refine(CP.o hm).mono ?_;clear _t hm;rintro e w⟨X2,v2,rfl,hX2,hm⟩;obtain⟨ad2,c2,rfl⟩:=hX2.shape;have HX2:=aa hX2;clear hX2)
  |go_at_call 100;refine MW (FX _ _ _ _) ?_)
 go_ret2
 exact⟨X2,_,rfl,HX2.o,hm⟩
def PN(c0:0<=c)(c1:c<=4294967295)(hm:Own w0 w rs ss):ak 113 #[.int .u32 c] w (oe w0 (0::cj c) rs ss):=by
 have CP:Hid (∀{W}{rs},Own w0 W rs ss->ak 161 #[.int .u32 c] W (oe w0 (cj c) rs ss)):=λh=>AE c0 c1 h;obtain⟨i5,hE⟩:=nP;have HE:=aa hE;obtain⟨i6,hE6⟩:=Md;have HL6:=aa hE6;clear hE hE6;go_enter func113,ntmps113
 go_wp2_with(first
  |refine Ad rfl (JQ hm rfl HL6.o D1 rfl ?_);clear hm;intro w gb hm
  |(go_at_call 161;have _t:=hm;refine(CP.o hm).mono ?_;clear _t hm;rintro e w⟨X2,v2,rfl,hX2,hm⟩;obtain⟨ad2,c2,rfl⟩:=hX2.shape;have HX2:=aa hX2;clear hX2)
  |(refine Ad rfl (GR (A:=X2) (X:=[(gb,#[.int .u8 0])]) hm rfl HE.o (Ac rfl) (Lies.whole (xs:=vs .u8 [0]) rfl) (Ac rfl) (λW h=>HX2.o.from (A:=[]) h) (Ic _ _) (by simp[cj]) (by simp[cj]) FP ?_);clear hm;intro X3 v3 w hX3 hm;obtain⟨ad3,c3,rfl⟩:=hX3.shape;have HX3:=aa hX3;clear hX3))
 go_ret;exact⟨X3,_,rfl,HX3.o,hm.sub (bG X2 _) (aY _)⟩
end
section
variable{cs:ai}{news xs:ar}{c g k n off s:Nat}{x x0 x1 x2 x3 y:O7}{i:Oy}{sv v0 v1 v2 v3:NY}{w':FC}
section
variable{P:O8}{o:Oz}{a:OA}{w w0:FC}{rs:ae}{ss:O1}{K:Value->FC->Prop}{t e:O4}{q:Oy}{z:NY}{bytes:Nat}
def Ahd(hm:Own w0 w rs ss)(ho:o.op=.buildSlice t 3 #[(0,x0),(1,x1),(2,x2)])(he:Gv P t e q z bytes)(h0:a.eval x0=v0)(h1:a.eval x1=v1)(h2:a.eval x2=v2)(c0:v0.cells=#[v0])(c1:v1.cells=#[v1])(c2:v2.cells=#[v2])
  (h:∀w' g,Own w0 w' ((g,#[v0,v1,v2])::rs) ss->K (.slice (some ⟨g,0,none⟩) 3 3) w'):Eff P o a w K:=by
 refine Eff.val (v:=.slice (some ⟨w.heap.size,0,none⟩) 3 3) (w':=w.alloc (.cells #[v0,v1,v2] e)) ?_ (h _ _ (hm.alloc _ e));have hz:(zeroValue e).run P w=.ok z w:=by simp[zeroValue,typeInfo,he.info,he.zero]
 have hr:Array.range 3=#[0,1,2]:=FU
 unfold execOp;simp only[ho,Instr.buildSlice,aL,bL he.under,aS,sizeOf,typeInfo,jL,he.info,cM,bT,bZ,h0,h1,h2];simp[Instr.fill,c0,c1,c2,he.size,newRow,hz,Result.andThen,hr]
def Zs(hm:Own w0 w rs ss)(ho:o.op=.buildSlice t 4 #[(0,x0),(1,x1),(2,x2),(3,x3)])(he:Gv P t e q z bytes)(h0:a.eval x0=v0)(h1:a.eval x1=v1)(h2:a.eval x2=v2)(h3:a.eval x3=v3)(c0:v0.cells=#[v0])(c1:v1.cells=#[v1])(c2:v2.cells=#[v2])(c3:v3.cells=#[v3])
  (h:∀w' g,Own w0 w' ((g,#[v0,v1,v2,v3])::rs) ss->K (.slice (some ⟨g,0,none⟩) 4 4) w'):Eff P o a w K:=by
 refine Eff.val (v:=.slice (some ⟨w.heap.size,0,none⟩) 4 4) (w':=w.alloc (.cells #[v0,v1,v2,v3] e)) ?_ (h _ _ (hm.alloc _ e));have hz:(zeroValue e).run P w=.ok z w:=by simp[zeroValue,typeInfo,he.info,he.zero]
 have hr:Array.range 4=#[0,1,2,3]:=FU
 unfold execOp;simp only[ho,Instr.buildSlice,aL,bL he.under,aS,sizeOf,typeInfo,jL,he.info,cM,bT,bZ,h0,h1,h2,h3];simp[Instr.fill,c0,c1,c2,c3,he.size,newRow,hz,Result.andThen,hr]
def Own.lose(h:Own w0 w ((g,cs)::rs) ss)(hg:w.grownBy w' (some g)):Own w0 w' rs ss:=by
 have hne:∀p∈rs,p.1≠g:=λp hp e=>by
  have:=h.mem.apart;rw[bT,dR]at this;exact this.1 (eX.2 ⟨p,hp,e⟩)
 have h2:=h.dropRow;refine⟨⟨h.below.grown hg h.below.size (λk e=>by cases e;exact h.mem.own _ eP),h2.mem.own,λp hp=>(h2.mem.rows p hp).of_block (hg.block _ (h2.mem.rows p hp).lt λe=>hne p hp (by cases e;rfl)),h2.mem.apart⟩,λs hs=>(h.sl s hs).kept hg ?_ (λk hk=>by cases hk;obtain⟨t,ht⟩:=h.row 0 rfl;exact⟨_,_,_,ht⟩),h2.apart⟩;cases hv:s.1.ownBlock with
|none=>exact .inl rfl
|some k=>
  refine .inr λe=>?_;cases e;obtain⟨_,_,h3⟩:=jv.1 h.apart;exact h3 g (iU.2 ⟨s,hs,hv⟩) g eP rfl
def Rp{w:FC}:w.grownBy (w.freeze ⟨g,n,none⟩ 1) (some g):=
 ⟨rfl,rfl,rfl,by show w.heap.size<=(w.heap.modify g _).size;simp,λk _ hk=>by
  show(w.heap.modify g _)[k]?=_
  rw[Array.getElem?_modify,aP (λe=>hk (by rw[e]))]⟩
def qT{K:Value->FC->Prop}(hm:Own w0 w ((g,cs)::rs) ss)(ho:o.op=.convert 22 22 x)(hx:a.eval x=.slice (some ⟨g,off,none⟩) n c)(h:∀w',Own w0 w' rs ss->(∀j:Nat,w'.cell? ⟨g,j,none⟩=cs.toList[j]?)->K (.slice (some ⟨g,off,none⟩) n c) w'):Eff prog o a w K:=by
 obtain⟨t,ht⟩:=hm.row 0 rfl;have hs:w.shape? g=some (t,cs.size):=by unfold World.shape?;rw[ht]
 refine Eff.val (v:=.slice (some ⟨g,off,none⟩) n c) (w':=w.freeze ⟨g,cs.size,none⟩ 1) ?_ (h _ (hm.lose Rp) λj=>?_)
 .unfold execOp;simp only[ho,hx];simp[convert,bL underlying22,bL underlying5,markStringish,shape,Sem.run,freeze,hs,Result.andThen]
 .unfold World.cell?
  have:(w.freeze ⟨g,cs.size,none⟩ 1).heap[g]?=some (.cells cs t (cs.size,cs.size+1)):=by
   show(w.heap.modify g _)[g]?=_;rw[Array.getElem?_modify,aQ rfl,ht];rfl
  rw[cE];simp[this]
def Ad8{t e bytes:Nat}{z:NY}{K:Value->FC->Prop}(hm:Own w0 w rs ss)(ho:o.op=.call {callee:=.builtin .append,args:=#[x,y],argTypes:=#[t,t]})(he:OW P t e s bytes i z)
  (hx:a.eval x=.slice g n c)(hlx:xs.length=n*s)(hcx:∀(j:Nat)u,xs[j]?=some u->w.cell? ⟨g,j,none⟩=some u)(hy:a.eval y=sv)(hs:∀W,Own w0 W rs ss->From s W sv k news)(h1:∀u∈news,u.oneCell'=true)(hc:c<n+k)(hb:(n+k)*bytes<=140737488355328)(h63:n+k<=281474976710656)
  (h:∀X' v' w',Lies s X' v' (n+k) (xs++news)->Own w0 w' (X'++rs) ss->K v' w'):Eff P o a w K:=by
 have hF:=hs w hm;have hlen:(xs++news).length=(n+k)*s:=by rw[aV,hlx,hF.1,oh]
 have hsrc:Go.Src P i.size t sv k news w:=by
  exact vn
 have hg:(Builtin.firstCells i.size n (.slice g n c)).run P w.drew=.ok xs.toArray w.drew:=zA (P:=P) w.drew i.size n _ n c xs (by rw[he.size];exact hlx) λj u hj=>by rw[fQ,dA];exact hcx j u hj
 have hr:=run_append_grow_src w t t o.type e i z he.under he.info he.zero g n c xs hg sv k news hsrc hc FP (tY hc IV);have hge:=xk w (n+k) c e;refine Eff.val (v:=.slice (some ⟨w.heap.size,0,none⟩) (n+k) (grownCap w (n+k) c e)) (w':=w.drew.alloc (.cells ((xs++news).toArray++Builtin.zeroCells z.cells (grownCap w (n+k) c e-(n+k))) e)) LC ?_;refine h [(w.heap.size,(xs++news).toArray++Builtin.zeroCells z.cells (grownCap w (n+k) c e-(n+k)))] _ _ ⟨hlen,.inr ⟨_,0,_,_,rfl,rfl,hge,?_,?_⟩⟩ ((hm.drawn (w.drawn+1)).alloc _ e)
 .exact K8
 .intro j hj;rw[dA,zC (by simpa using hj)];simp
end
def hput(h1:1<=n)(h2:n<=65536){w0 w:FC}{rs:ae}{ss:O1}(hm:Own w0 w rs ss):ak 149 #[.agg #[.int .i64 n]] w (kh w0 ([87,80,1]++cn n) (.int .i64 0) rs ss):=by
 have CN:Hid (∀{W}{rs},Own w0 W rs ss->ak 185 #[.int .i64 n,.int .i64 65536] W (kh w0 (cn n) (.bool true) rs ss)):=λh=>wh 65536 h1 h2 FP h;have hlen:(cn n).length<=10:=by have:=(ka n FP).1;omega
 have hlen0:=(ka n FP).2;obtain⟨l,hl⟩:∃l,l=cn n:=⟨_,rfl⟩;rw[<-hl]at CN hlen hlen0⊢;clear hl;obtain⟨i5,hE⟩:=nP;have HE:=aa hE;obtain⟨i6,hE6⟩:=xc;have HL6:=aa hE6;clear hE hE6;go_enter func149,ntmps149
 go_wp2_with(first
 |(go_at_call 185;have _t:=hm;refine(CN.o hm).mono ?_;clear _t hm;rintro e w⟨X2,v2,rfl,hX2,hm⟩;obtain⟨ad2,c2,rfl⟩:=hX2.shape;have HX2:=aa hX2;clear hX2)
 |refine Ad rfl (Ahd hm rfl HL6.o nS nS nS rfl rfl rfl ?_);clear hm;intro w gb hm
 |(refine Ad rfl (qT hm rfl (Ac rfl) ?_);clear hm;intro w hm hc;have HC:=aa hc;clear hc)
 |(refine Ad rfl (Ad8 (xs:=vs .u8 [87,80,1]) hm rfl HE.o (Ac rfl) rfl (λj u hj=>(HC.o j).trans hj) (Ac rfl) (λW h=>HX2.o.from (A:=[]) h) (Ic _ _) G8 G8 FP ?_);clear hm;intro X3 v3 w hX3 hm;obtain⟨ad3,c3,rfl⟩:=hX3.shape;have HX3:=aa hX3;clear hX3)
 |refine U ?_;try(clear hm;intro w _ hm))
 go_ret2
 exact⟨X3,.slice ad3 (3+l.length) c3,rfl,(show Lies 1 X3 (.slice ad3 (3+l.length) c3) ([87,80,1]++l).length (vs .u8 ([87,80,1]++l)) by rw[show([87,80,1]++l:ac).length=3+l.length by simp;omega,<-qy];exact HX3.o),(hm.sub (zD (List.sublist_append_of_sublist_right (lV _ _)) X3) (aY _))⟩
end
def swp(l:ac)(i j:Nat):ac:=(l.set i (gi l j)).set j (gi l i)
def kB(C:Int->Int->Int)(a:Nat):Nat->ac->ac
|0,l=>l
|d+1,l=>if C (gi l (a+d+1)) (gi l (a+d))<0 then kB C a d (swp l (a+d+1) (a+d))else l
def ff(C:Int->Int->Int)(a:Nat)(l:ac):Nat->ac
|0=>l
|k+1=>kB C a (k+1) (ff C a l k)
def gg(a b:Nat)(l:ac):Nat->ac
|0=>l
|k+1=>swp (gg a b l k) (a+k) (b+k)
def eU(m:Nat):Nat->Nat->Nat->ac->ac
|0,_,_,l=>l
|f+1,i,j,l=>if i=j then gg (m-i) m l i else if j<i then eU m f (i-j) j (gg (m-i) m l j)else eU m f i (j-i) (gg (m-i) (m+j-i) l i)
def dq(p:Nat->Bool):Nat->Nat->Nat->Nat
|0,i,_=>i
|f+1,i,j=>if i<j then(if p ((i+j)/2)then dq p f ((i+j)/2+1) j else dq p f i ((i+j)/2))else i
def kw(a:Nat)(l:ac):Nat->ac
|0=>l
|k+1=>swp (kw a l k) (a+k) (a+k+1)
def lp(m:Nat)(l:ac):Nat->ac
|0=>l
|k+1=>swp (lp m l k) (m-k) (m-k-1)
def de(C:Int->Int->Int):Nat->Nat->Nat->Nat->ac->ac
|0,_,_,_,l=>l
|f+1,a,m,b,l=>
  if m-a=1 then kw a l (dq (λh=>decide (C (gi l h) (gi l a)<0)) (b-m) m b-1-a)
  else if b-m=1 then lp m l (m-dq (λh=>!decide (C (gi l m) (gi l h)<0)) (m-a) a m)
  else
   let q:=(a+b)/2
   let n:=q+m
   let s:=dq (λc=>!decide (C (gi l (n-1-c)) (gi l c)<0)) (b-a) (if q<m then n-b else a) (if q<m then q else m)
   let l1:=if s<m/\m<n-s then eU m (n-s-s) (m-s) (n-s-m) l else l
   let l2:=if a<s/\s<q then de C f a s q l1 else l1
   if q<n-s/\n-s<b then de C f q (n-s) b l2 else l2
def GW{l:ac}{i j:Nat}:(swp l i j).length=l.length:=by simp[swp]
structure Sub(l l':ac):Prop where
 len:l'.length=l.length
 mem:∀x∈l',x∈l
def Sub.refl(l:ac):Sub l l:=⟨rfl,λ_ h=>h⟩
def Sub.trans{l l' l'':ac}(h:Sub l l')(h':Sub l' l''):Sub l l'':=⟨h'.len.trans h.len,λx hx=>h.mem x (h'.mem x hx)⟩
def Sub.swp{l l':ac}(h:Sub l l'){i j:Nat}(hi:i<l.length)(hj:j<l.length):Sub l (swp l' i j):=by
 have hl:=h.len;refine h.trans ⟨GW,λx hx=>?_⟩;rcases kV hx with hx|rfl
 .rcases kV hx with hx|rfl
  .exact hx
  .exact cI _ _ FP
 .exact cI _ _ FP
def Sub.kB{C:Int->Int->Int}{a:Nat}{l:ac}:∀{d:Nat}{l':ac},Sub l l'->a+d<l.length->Sub l (kB C a d l')
|0,_,h,_=>h
|d+1,l',h,hd=>by
  rw[YtkpbhdhkdonghaaGreat.kB];split
  .exact Sub.kB (h.swp FP FP) FP
  .exact h
def Sub.ff{C:Int->Int->Int}{a:Nat}{l:ac}:∀{k:Nat},a+k<l.length->Sub l (ff C a l k)
|0,_=>.refl l
|k+1,h=>Sub.kB (Sub.ff FP) FP
def Sub.gg{a b:Nat}{l l':ac}(h:Sub l l'):∀{k:Nat},a+k<=l.length->b+k<=l.length->Sub l (gg a b l' k)
|0,_,_=>h
|k+1,h1,h2=>(Sub.gg h (k:=k) FP FP).swp FP FP
def Sub.eU{m:Nat}{l:ac}:∀{f i j:Nat}{l':ac},Sub l l'->i<=m->m+j<=l.length->Sub l (eU m f i j l')
|0,_,_,_,h,_,_=>h
|f+1,i,j,l',h,h1,h2=>by
  rw[YtkpbhdhkdonghaaGreat.eU];split
  .exact h.gg FP FP
  .split
   .exact Ks
   .exact Ks
def rA{p:Nat->Bool}:∀{f i j:Nat},i<=j->i<=dq p f i j/\dq p f i j<=j
|0,_,_,h=>⟨aX _,h⟩
|f+1,i,j,h=>by
  rw[dq];split
  .split
   .have:=rA (p:=p) (f:=f) (i:=(i+j)/2+1) (j:=j) FP;omega
   .have:=rA (p:=p) (f:=f) (i:=i) (j:=(i+j)/2) FP;omega
  .exact⟨aX _,h⟩
def Sub.kw{a:Nat}{l:ac}:∀{k:Nat},a+k<l.length->Sub l (kw a l k)
|0,_=>.refl l
|k+1,h=>(Sub.kw (k:=k) FP).swp FP FP
def Sub.lp{m:Nat}{l:ac}(hm:m<l.length):∀{k:Nat},Sub l (lp m l k)
|0=>.refl l
|k+1=>(Sub.lp hm (k:=k)).swp FP FP
def Sub.de{C:Int->Int->Int}{l:ac}:∀{f a m b:Nat}{l':ac},Sub l l'->a<m->m<b->b<=l.length->Sub l (de C f a m b l')
|0,_,_,_,_,h,_,_,_=>h
|f+1,a,m,b,l',h,h1,h2,h3=>by
  have hl:=h.len;rw[YtkpbhdhkdonghaaGreat.de];split
  .have:=(rA (p:=λh=>decide (C (gi l' h) (gi l' a)<0)) (f:=b-m) (i:=m) (j:=b) FP).2;exact h.trans (Sub.kw FP)
  .split
   .exact h.trans (Sub.lp FP)
   .have hb:(if(a+b)/2<m then(a+b)/2+m-b else a)<=(if(a+b)/2<m then(a+b)/2 else m):=by split<;>omega
    have hs:=rA (p:=λc=>!decide (C (gi l' ((a+b)/2+m-1-c)) (gi l' c)<0)) (f:=b-a) hb;simp only;generalize dq (λc=>!decide (C (gi l' ((a+b)/2+m-1-c)) (gi l' c)<0)) (b-a) (if(a+b)/2<m then(a+b)/2+m-b else a) (if(a+b)/2<m then(a+b)/2 else m)=s at*
    have hs2:(a+b)/2+m-s<=b:=by
     split at hs<;>omega
    have hl1:Sub l (if s<m/\m<(a+b)/2+m-s then YtkpbhdhkdonghaaGreat.eU m ((a+b)/2+m-s-s) (m-s) ((a+b)/2+m-s-m) l' else l'):=by
     split
     .exact h.eU FP FP
     .exact h
    generalize (if s<m/\m<(a+b)/2+m-s then YtkpbhdhkdonghaaGreat.eU m ((a+b)/2+m-s-s) (m-s) ((a+b)/2+m-s-m) l' else l')=l1 at*
    have hl2:Sub l (if a<s/\s<(a+b)/2 then YtkpbhdhkdonghaaGreat.de C f a s ((a+b)/2) l1 else l1):=by
     split
     .exact Sub.de hl1 FP FP FP
     .exact hl1
    generalize (if a<s/\s<(a+b)/2 then YtkpbhdhkdonghaaGreat.de C f a s ((a+b)/2) l1 else l1)=l2 at*;split
    .exact Sub.de hl2 FP FP FP
    .exact hl2
section
variable{a b c k m n:Nat}{f:NY}
structure Cmp(fc:FuncId)(v:NY)(C:Int->Int->Int)(D:Int->Prop)(w0:FC)(g:Nat)(T:ar)(rs:ae)(ss:O1):Prop where
 en:∀args w,(callFunc fc args).run prog w=.ok (.enter fc args) w
 run:∀W l a b,D a->D b->Own w0 W ((g,IR .i64 l T)::rs) ss->ak fc #[.int .i64 a,.int .i64 b,v] W (RO (.int .i64 (C a b)) w0 ((g,IR .i64 l T)::rs) ss)
variable{fc:FuncId}{v:NY}{C:Int->Int->Int}{D:Int->Prop}{w0 w:FC}{g:Nat}{T:ar}{rs:ae}{ss:O1}{l:ac}
def S4(hC:Cmp fc v C D w0 g T rs ss)(hn:l.length=n)(hs:n<=100000)(hb:b<=n)(ha:a<=n)(hD:∀x∈l,D x)(hm:Own w0 w ((g,IR .i64 l T)::rs) ss):ak 282 #[.slice (some ⟨g,0,none⟩) n c,.int .i64 a,.int .i64 b,.func (.func fc) #[] #[v]] w (RO (.tuple #[]) w0 ((g,IR .i64 (ff C a l (b-a-1)) T)::rs) ss):=by
 have EN:=hC.en;have HD:=aa hD;clear hD;go_enter func282,ntmps282;go_wp2
 go_loopw[8] (λu wr=>∃k:Nat,(k=0\/a+1+k<=b)/\u=.int .i64 ((a:Int)+1+k)/\Own w0 wr ((g,IR .i64 (ff C a l k) T)::rs) ss) (λu _=>n+1-(intOf u).toNat)
 case atStart=>exact⟨0,.inl rfl,by go_num,hm⟩
 case round=>
  clear hm;obtain⟨k,hk,rfl,hm⟩:=hrel;rcases bF (a+1+k) b with hlt|hge
  .have p2:decide ((a:Int)+1+k<b)=true:=az;go_wp2
   go_loopw[9] (λu wr=>∃(d:Nat)(l':ac),d<=k+1/\u=.int .i64 ((a:Int)+d)/\Sub l l'/\kB C a d l'=ff C a l (k+1)/\Own w0 wr ((g,IR .i64 l' T)::rs) ss) (λu _=>(intOf u).toNat)
   case atStart=>exact⟨k+1,_,aX _,by go_num,Sub.ff FP,rfl,hm⟩
   case round=>
    clear hm hk;obtain⟨d,l',hd,rfl,hS,hR,hm⟩:=hrel;have hl:=hS.len;have HS:=aa hS;rcases qw d with rfl|h0
    .go_wp2_with(refine U ?_;try(clear hm;intro w _ hm))
     go_roundw
     case rel=>exact⟨k+1,FP,by go_num,by rw[<-hR];exact hm⟩
     case measure=>simp[intOf];omega
    .obtain⟨d,rfl⟩:∃e,d=e+1:=⟨d-1,FP⟩;rw[kB]at hR;have p0:decide ((a:Int)<(a:Int)+((d:Int)+1))=true:=az;have hq:C (gi l' (a+d+1)) (gi l' (a+d))<0\/¬C (gi l' (a+d+1)) (gi l' (a+d))<0:=FP
     rcases hq with hq|hq
     focus
      rw[aQ hq]at hR;have p1:=aW hq
     rotate_left
     focus
      rw[aP hq]at hR;have p1:=aU hq
     all_goals
      have HR:=aa hR;clear hR hS hq;have hd1:=HD.o _ (HS.o.mem _ (cI l' (a+d) FP));have hd2:=HD.o _ (HS.o.mem _ (cI l' (a+d+1) FP))
      go_wp2_with(first
      |refine uJ (a+d+1) ?_
      |refine uJ (a+d) ?_
      |go_at_fn fc;refine MP (hC.run _ _ _ _ hd2 hd1 hm) ?_;clear hm;intro w1 hm
      |refine U ?_;try(clear hm;intro w _ hm))
      first
     |go_roundw;(case rel=>exact⟨d,_,FP,by go_num,HS.o.swp FP FP,HR.o,hm⟩);(case measure=>simp[intOf];omega)
     |go_roundw;(case rel=>exact⟨k+1,FP,by go_num,by rw[<-HR.o];exact hm⟩);(case measure=>simp[intOf];omega)
  .go_wp2
   go_end0
   exact⟨rfl,by rw[show b-a-1=k by omega];exact hm⟩
def We(hn:l.length=n)(hs:n<=100000)(ha:a+k<=n)(hb:b+k<=n)(hm:Own w0 w ((g,IR .i64 l T)::rs) ss):ak 294 #[.slice g n c,.int .i64 a,.int .i64 b,.int .i64 k,f] w (RO (.tuple #[]) w0 ((g,IR .i64 (gg a b l k) T)::rs) ss):=by
 go_enter func294,ntmps294;go_wp2
 go_loopw[10] (λu wr=>∃(i:Nat)(l':ac),i<=k/\u=.int .i64 i/\l'.length=n/\l'=gg a b l i/\Own w0 wr ((g,IR .i64 l' T)::rs) ss) (λu _=>k-(intOf u).toNat)
 case atStart=>exact⟨0,l,FP,rfl,hn,rfl,hm⟩
 case round=>
  clear hm hn;obtain⟨i,l',hi,rfl,hl,hR,hm⟩:=hrel;have HR:=aa hR;clear hR;rcases bF i k with hlt|hge
  .have p2:decide ((i:Int)<k)=true:=az
   go_wp2_with(first
   |refine uJ (a+i) ?_
   |refine uJ (b+i) ?_
   |refine U ?_;try(clear hm;intro w _ hm))
   go_roundw
   case rel=>exact⟨i+1,_,FP,by go_num,by rw[cO,cO];exact hl,by rw[gg,<-HR.o];rfl,hm⟩
   case measure=>simp[intOf];omega
  .obtain rfl:i=k:=FP
   go_wp2
   go_end0
   exact A4
def xx(a b:Nat)(l:ac):∀k,(gg a b l k).length=l.length
|0=>rfl
|k+1=>by rw[gg,GW,xx a b l k]
def Aft(hn:l.length=n)(hs:n<=100000)(h1:a<m)(h2:m<b)(h3:b<=n)(hm:Own w0 w ((g,IR .i64 l T)::rs) ss):ak 292 #[.slice g n c,.int .i64 a,.int .i64 m,.int .i64 b,f] w (RO (.tuple #[]) w0 ((g,IR .i64 (eU m (b-a) (m-a) (b-m) l) T)::rs) ss):=by
 go_enter func292,ntmps292;go_wp2
 go_loopw[10,11] (λu v wr=>∃(k i j:Nat)(l':ac),0<i/\0<j/\i+j<=k/\i<=m/\m+j<=n/\u=.int .i64 i/\v=.int .i64 j/\l'.length=n/\eU m k i j l'=eU m (b-a) (m-a) (b-m) l/\Own w0 wr ((g,IR .i64 l' T)::rs) ss) (λu v _=>(intOf u).toNat+(intOf v).toNat)
 case atStart=>exact⟨b-a,m-a,b-m,l,FP,FP,FP,FP,FP,by go_num,by go_num,hn,rfl,hm⟩
 case round=>
  clear hm hn h1 h2 h3;obtain⟨k,i,j,l',h1,h2,h3,h4,h5,rfl,rfl,hl,hR,hm⟩:=hrel;obtain⟨k,rfl⟩:∃e,k=e+1:=⟨k-1,FP⟩;rw[eU]at hR
  have CS:Hid (∀W p q k x y z,x=((p:Nat):Int)->y=((q:Nat):Int)->z=((k:Nat):Int)->p+k<=n->q+k<=n->Own w0 W ((g,IR .i64 l' T)::rs) ss->ak 294 #[.slice g n c,.int .i64 x,.int .i64 y,.int .i64 z,f] W (RO (.tuple #[]) w0 ((g,IR .i64 (gg p q l' k) T)::rs) ss)):=λW p q k x y z e1 e2 e3 h6 h7 h=>by
   subst e1 e2 e3;exact We hl hs h6 h7 h
  rcases qX i j with hx|hx|hx
  .rw[aP FP,aP FP]at hR;have HR:=aa hR;clear hR;have p1:((i:Int) !=j)=true:=by simpa using (show¬(i:Int)=j by omega)
   have p2:decide ((j:Int)<i)=false:=an
   go_wp2_with(first
   |go_at_call 294;refine MP (CS.o _ (m-i) (m+j-i) i _ _ _ FP FP FP FP FP hm) ?_;clear hm;intro w1 hm
   |refine U ?_;try(clear hm;intro w _ hm))
   go_roundw
   case rel=>exact⟨k,i,j-i,_,h1,FP,FP,FP,FP,rfl,by go_num,by rw[xx];exact hl,HR.o,hm⟩
   case measure=>simp[intOf];omega
  .subst hx;rw[aQ rfl]at hR;have HR:=aa hR;clear hR
   go_wp2_with(first
   |go_at_call 294;refine MP (CS.o _ (m-i) m i _ _ _ FP FP FP FP FP hm) ?_;clear hm;intro w1 hm
   |refine U ?_;try(clear hm;intro w _ hm))
   go_end0
   exact A4
  .rw[aP FP,aQ hx]at hR;have HR:=aa hR;clear hR;have p1:((i:Int) !=j)=true:=by simpa using (show¬(i:Int)=j by omega)
   have p2:decide ((j:Int)<i)=true:=az
   go_wp2_with(first
   |go_at_call 294;refine MP (CS.o _ (m-i) m j _ _ _ FP FP FP FP FP hm) ?_;clear hm;intro w1 hm
   |refine U ?_;try(clear hm;intro w _ hm))
   go_roundw
   case rel=>exact⟨k,i-j,j,_,FP,h2,FP,FP,FP,by go_num,rfl,by rw[xx];exact hl,HR.o,hm⟩
   case measure=>simp[intOf];omega
end
section
variable{fc:FuncId}{v:NY}{C:Int->Int->Int}{D:Int->Prop}{w0 w:FC}{g:Nat}{T:ar}{rs:ae}{ss:O1}{l:ac}
def vG{p:Nat->Bool}{f i j:Nat}(h:i<j)(hf:0<f):dq p f i j=if p ((i+j)/2)then dq p (f-1) ((i+j)/2+1) j else dq p (f-1) i ((i+j)/2):=by
 obtain⟨f,rfl⟩:∃e,f=e+1:=⟨f-1,FP⟩;rw[dq,aQ h];rfl
def yr{p:Nat->Bool}{f i j:Nat}(h:j<=i):dq p f i j=i:=by
 cases f with
|zero=>rfl
|succ f=>rw[dq,aP FP]
def YB(a:Nat){m b n c:Nat}(hC:Cmp fc v C D w0 g T rs ss)(hn:l.length=n)(hs:n<=100000)(h1:m=a+1)(h2:m<b)(h3:b<=n)(hD:∀x∈l,D x)(hm:Own w0 w ((g,IR .i64 l T)::rs) ss):ak 283 #[.slice (some ⟨g,0,none⟩) n c,.int .i64 a,.int .i64 m,.int .i64 b,.func (.func fc) #[] #[v]] w (RO (.tuple #[]) w0 ((g,IR .i64 (kw a l (dq (λh=>decide (C (gi l h) (gi l a)<0)) (b-m) m b-1-a)) T)::rs) ss):=by
 have EN:=hC.en;have HD:Hid (∀i,i<n->D (gi l i)):=λi h=>hD _ (cI l i FP);have p0:((m:Int)-a==1)=true:=by simpa using (show(m:Int)-a=1 by omega)
 have H1:=aa h1;have hm1:a<m:=FP
 clear hD h1;go_enter func283,ntmps283;go_wp2
 go_loopw[10,11] (λu u2 wr=>∃(k i j:Nat),m<=i/\i<=j/\j<=b/\j-i<=k/\u=.int .i64 i/\u2=.int .i64 j/\dq (λh=>decide (C (gi l h) (gi l a)<0)) k i j=dq (λh=>decide (C (gi l h) (gi l a)<0)) (b-m) m b/\Own w0 wr ((g,IR .i64 l T)::rs) ss) (λu u2 _=>(intOf u2-intOf u).toNat)
 case atStart=>exact⟨b-m,m,b,FP,FP,FP,FP,rfl,rfl,rfl,hm⟩
 case round=>
  clear hm;obtain⟨k,i,j,hi,hij,hj,hk,rfl,rfl,hR,hm⟩:=hrel;rcases bF i j with hlt|hge
  .rw[vG hlt FP]at hR;have p2:decide ((i:Int)<j)=true:=az;obtain⟨h,hh⟩:∃h:Nat,h=(i+j)/2:=⟨_,rfl⟩;rw[<-hh]at hR;have p3:((i:Int)+j)/2=h:=FP
   have hb1:i<=h/\h<j:=FP
   have HH:=aa hh;clear hh;cases hq:decide (C (gi l h) (gi l a)<0)
   all_goals
    rw[hq]at hR;have HR:=aa hR;clear hR
    go_wp2_with(first
    |refine uJ h ?_
    |refine uJ a ?_
    |go_at_fn fc;refine MP (hC.run _ _ _ _ (HD.o _ FP) (HD.o _ FP) hm) ?_;clear hm;intro w1 hm
    |refine U ?_;try(clear hm;intro w _ hm))
    exact Mt
  .rw[yr hge]at hR;have p2:decide ((i:Int)<j)=false:=an;have hm2:=H1.o;obtain⟨z,hz⟩:∃z:Nat,i=a+1+z:=⟨i-a-1,FP⟩;have HBS:Hid (dq (λh=>decide (C (gi l h) (gi l a)<0)) (b-m) m b-1-a=z):=aa FP;have HZ:=aa hz;have hib:i<=b:=FP
   clear hR hm2 hz hk hi hij hj;go_wp2
   go_loopw[13] (λu wr=>∃(k:Nat)(l':ac),k<=z/\u=.int .i64 ((a:Int)+k)/\l'.length=n/\l'=kw a l k/\Own w0 wr ((g,IR .i64 l' T)::rs) ss) (λu _=>n-(intOf u).toNat)
   case atStart=>exact⟨0,l,FP,by go_num,hn,rfl,hm⟩
   case round=>
    clear hm;obtain⟨k,l',hk,rfl,hl,hR,hm⟩:=hrel;have HR:=aa hR;have hz:=HZ.o;clear hR;rcases bF k z with hlt2|hge2
    .have p4:decide ((a:Int)+k<(i:Int)-1)=true:=az;have hmk:a+k+1<n:=FP
     clear hz
     go_wp2_with(first
     |refine uJ (a+k+1) ?_
     |refine uJ (a+k) ?_
     |refine U ?_;try(clear hm;intro w _ hm))
     go_roundw
     case rel=>exact⟨k+1,_,FP,by go_num,by rw[cO,cO];exact hl,by rw[kw,<-HR.o];rfl,hm⟩
     case measure=>simp[intOf];omega
    .have p4:decide ((a:Int)+k<(i:Int)-1)=false:=an;exact P9
def S3(a m:Nat){b n c:Nat}(hC:Cmp fc v C D w0 g T rs ss)(hn:l.length=n)(hs:n<=100000)(h1:a+1<m)(h2:b=m+1)(h3:b<=n)(hD:∀x∈l,D x)(hm:Own w0 w ((g,IR .i64 l T)::rs) ss):ak 283 #[.slice (some ⟨g,0,none⟩) n c,.int .i64 a,.int .i64 m,.int .i64 b,.func (.func fc) #[] #[v]] w (RO (.tuple #[]) w0 ((g,IR .i64 (lp m l (m-dq (λh=>!decide (C (gi l m) (gi l h)<0)) (m-a) a m)) T)::rs) ss):=by
 have EN:=hC.en;have HD:Hid (∀i,i<n->D (gi l i)):=λi h=>hD _ (cI l i FP);have p0:((m:Int)-a==1)=false:=by simpa using (show¬(m:Int)-a=1 by omega)
 have p1:((b:Int)-m==1)=true:=by simpa using (show(b:Int)-m=1 by omega)
 have hm1:m<n:=FP
 clear hD h2;go_enter func283,ntmps283;go_wp2
 go_loopw[14,15] (λu u2 wr=>∃(k i j:Nat),a<=i/\i<=j/\j<=m/\j-i<=k/\u=.int .i64 i/\u2=.int .i64 j/\dq (λh=>!decide (C (gi l m) (gi l h)<0)) k i j=dq (λh=>!decide (C (gi l m) (gi l h)<0)) (m-a) a m/\Own w0 wr ((g,IR .i64 l T)::rs) ss) (λu u2 _=>(intOf u2-intOf u).toNat)
 case atStart=>exact⟨m-a,a,m,FP,FP,FP,FP,rfl,rfl,rfl,hm⟩
 case round=>
  clear hm;obtain⟨k,i,j,hi,hij,hj,hk,rfl,rfl,hR,hm⟩:=hrel;rcases bF i j with hlt|hge
  .rw[vG hlt FP]at hR;have p2:decide ((i:Int)<j)=true:=az;obtain⟨h,hh⟩:∃h:Nat,h=(i+j)/2:=⟨_,rfl⟩;rw[<-hh]at hR;have p3:((i:Int)+j)/2=h:=FP
   have hb1:i<=h/\h<j:=FP
   have HH:=aa hh;clear hh;cases hq:decide (C (gi l m) (gi l h)<0)
   all_goals
    rw[hq]at hR;have HR:=aa hR;clear hR
    go_wp2_with(first
    |refine uJ h ?_
    |refine uJ m ?_
    |go_at_fn fc;refine MP (hC.run _ _ _ _ (HD.o _ FP) (HD.o _ FP) hm) ?_;clear hm;intro w1 hm
    |refine U ?_;try(clear hm;intro w _ hm))
    exact Mt
  .rw[yr hge]at hR;have p2:decide ((i:Int)<j)=false:=an;obtain⟨z,hz⟩:∃z:Nat,i+z=m:=⟨m-i,FP⟩;have HBS:Hid (m-dq (λh=>!decide (C (gi l m) (gi l h)<0)) (m-a) a m=z):=aa FP;have HZ:=aa hz;clear hR hz hk hi hij hj;go_wp2
   go_loopw[17] (λu wr=>∃(k:Nat)(l':ac),k<=z/\u=.int .i64 ((m:Int)-k)/\l'.length=n/\l'=lp m l k/\Own w0 wr ((g,IR .i64 l' T)::rs) ss) (λu _=>(intOf u).toNat)
   case atStart=>exact⟨0,l,FP,by go_num,hn,rfl,hm⟩
   case round=>
    clear hm;obtain⟨k,l',hk,rfl,hl,hR,hm⟩:=hrel;have HR:=aa hR;have hz:=HZ.o;clear hR;rcases bF k z with hlt2|hge2
    .have p4:decide ((i:Int)<(m:Int)-k)=true:=az;have hmk:k<m:=FP
     clear hz
     go_wp2_with(first
     |refine uJ (m-k) ?_
     |refine uJ (m-k-1) ?_
     |refine U ?_;try(clear hm;intro w _ hm))
     go_roundw
     case rel=>exact⟨k+1,_,FP,by go_num,by rw[cO,cO];exact hl,by rw[lp,<-HR.o];rfl,hm⟩
     case measure=>simp[intOf];omega
    .have p4:decide ((i:Int)<(m:Int)-k)=false:=an;exact P9
end
section
variable{fc:FuncId}{v:NY}{C:Int->Int->Int}{D:Int->Prop}{w0 w:FC}{g:Nat}{T:ar}{rs:ae}{ss:O1}{l:ac}
def za(m q s:Nat)(l:ac):ac:=if s<m/\m<q+m-s then eU m (q+m-s-s) (m-s) (q+m-s-m) l else l
def mB(C:Int->Int->Int)(f a m q s:Nat)(l:ac):ac:=if a<s/\s<q then de C f a s q (za m q s l)else za m q s l
def Afc{f a m b q s s0 r0:Nat}(h1:¬m-a=1)(h2:¬b-m=1)(hq:q=(a+b)/2)(h0:(if q<m then q+m-b else a)=s0)(h3:(if q<m then q else m)=r0)(hs:dq (λc=>!decide (C (gi l (q+m-1-c)) (gi l c)<0)) (b-a) s0 r0=s):
  de C (f+1) a m b l=if q<q+m-s/\q+m-s<b then de C f q (q+m-s) b (mB C f a m q s l)else mB C f a m q s l:=by
 subst hq h0 h3 hs;rw[de,aP h1,aP h2];rfl
def tI(fc:FuncId)(v:NY)(C:Int->Int->Int)(w0:FC)(g:Nat)(T:ar)(rs:ae)(ss:O1)(l:ac)(n c f:Nat):Prop:=∀W l'(a m b:Nat)(x y z:Int),x=a->y=m->z=b->b-a<=f->a<m->m<b->b<=n->Sub l l'->Own w0 W ((g,IR .i64 l' T)::rs) ss->ak 283 #[.slice (some ⟨g,0,none⟩) n c,.int .i64 x,.int .i64 y,.int .i64 z,.func (.func fc) #[] #[v]] W (RO (.tuple #[]) w0 ((g,IR .i64 (de C f a m b l') T)::rs) ss)
def Vu{a m b n c f:Nat}(hC:Cmp fc v C D w0 g T rs ss)(hn:l.length=n)(hs:n<=100000)(h1:a+1<m)(h2:m+1<b)(h3:b<=n)(hf:b-a<=f+1)(hD:∀x∈l,D x)(hI:tI fc v C w0 g T rs ss l n c f)(hm:Own w0 w ((g,IR .i64 l T)::rs) ss):ak 283 #[.slice (some ⟨g,0,none⟩) n c,.int .i64 a,.int .i64 m,.int .i64 b,.func (.func fc) #[] #[v]] w (RO (.tuple #[]) w0 ((g,IR .i64 (de C (f+1) a m b l) T)::rs) ss):=by
 have EN:=hC.en;have HD:Hid (∀i,i<n->D (gi l i)):=λi h=>hD _ (cI l i FP);have p0:((m:Int)-a==1)=false:=by simpa using (show¬(m:Int)-a=1 by omega)
 have p1:((b:Int)-m==1)=false:=by simpa using (show¬(b:Int)-m=1 by omega)
 have HI:=aa hI;obtain⟨q,hq⟩:∃q:Nat,q=(a+b)/2:=⟨_,rfl⟩;have p3:((a:Int)+b)/2=q:=FP
 have hq1:a<q/\q<b/\b<=2*q-a+1/\2*q<=a+b:=FP
 have CR:Hid (∀W l'(s e:Nat)(x y z:Int),x=s->y=m->z=e->s<m->m<e->e<=n->Sub l l'->Own w0 W ((g,IR .i64 l' T)::rs) ss->ak 292 #[.slice (some ⟨g,0,none⟩) n c,.int .i64 x,.int .i64 y,.int .i64 z,.func (.func fc) #[] #[v]] W (RO (.tuple #[]) w0 ((g,IR .i64 (eU m (e-s) (m-s) (e-m) l') T)::rs) ss)):=λW l' s e x y z e1 e2 e3 h4 h5 h6 h7 h=>by
  subst e1 e2 e3;exact Aft (h7.len.trans hn) hs h4 h5 h6 h
 clear hD hI
 obtain⟨s0,r0,hsr,hx⟩:∃s0 r0:Nat,((if q<m then q+m-b else a)=s0/\(if q<m then q else m)=r0)/\((q<m/\s0+b=q+m/\q=r0)\/(m<=q/\a=s0/\m=r0)):=by
  by_cases h:q<m
  .exact⟨q+m-b,q,⟨aQ h,aQ h⟩,.inl ⟨h,FP,rfl⟩⟩
  .exact⟨a,m,⟨aP h,aP h⟩,.inr ⟨FP,rfl,rfl⟩⟩
 have HF:Hid (∀s,dq (λc=>!decide (C (gi l (q+m-1-c)) (gi l c)<0)) (b-a) s0 r0=s->de C (f+1) a m b l=if q<q+m-s/\q+m-s<b then de C f q (q+m-s) b (mB C f a m q s l)else mB C f a m q s l):=λs h=>Afc FP FP hq hsr.1 hsr.2 h;clear hsr hq;have HX:=aa hx;have hsr:s0<=r0:=FP
 rcases hx with⟨hx,hx2,rfl⟩|⟨hx,rfl,rfl⟩
 focus
  have p4:decide ((q:Int)<m)=true:=az;have p5:(q:Int)+m-b=s0:=FP
 rotate_left
 focus
  have p4:decide ((q:Int)<m)=false:=an;have p5:True:=trivial
 all_goals
  go_enter func283,ntmps283;go_wp2
  go_loopw[20,21] (λu u2 wr=>∃(k i j:Nat),q+m<=i+b/\a<=i/\i<=j/\j<=q/\j<=m/\j-i<=k/\u=.int .i64 i/\u2=.int .i64 j/\(∀s,dq (λc=>!decide (C (gi l (q+m-1-c)) (gi l c)<0)) k i j=s->de C (f+1) a m b l=if q<q+m-s/\q+m-s<b then de C f q (q+m-s) b (mB C f a m q s l)else mB C f a m q s l)/\Own w0 wr ((g,IR .i64 l T)::rs) ss) (λu u2 _=>(intOf u2-intOf u).toNat)
  case atStart=>exact⟨b-a,_,_,FP,FP,FP,FP,FP,FP,rfl,rfl,HF.o,hm⟩
  case round=>
   clear hm;obtain⟨k,i,j,hi,hi2,hij,hj,hj2,hk,rfl,rfl,hR,hm⟩:=hrel;rcases bF i j with hlt|hge
   .rw[vG hlt FP]at hR;have p6:decide ((i:Int)<j)=true:=az;obtain⟨h,hh⟩:∃h:Nat,h=(i+j)/2:=⟨_,rfl⟩;rw[<-hh]at hR;have p7:((i:Int)+j)/2=h:=FP
    have hb1:i<=h/\h<j:=FP
    have hb2:h<n/\q+m-1-h<n/\h+1<=q+m:=FP
    have HH:=aa hh;clear hh;cases hq:decide (C (gi l (q+m-1-h)) (gi l h)<0)
    all_goals
     rw[hq]at hR;have HR:=aa hR;clear hR
     go_wp2_with(first
     |refine uJ h ?_
     |refine uJ (q+m-1-h) ?_
     |go_at_fn fc;refine MP (hC.run _ _ _ _ (HD.o _ FP) (HD.o _ FP) hm) ?_;clear hm;intro w1 hm
     |refine U ?_;try(clear hm;intro w _ hm))
     have:=HH.o;go_roundw
     case rel=>first|exact⟨k-1,i,h,FP,FP,FP,FP,FP,FP,rfl,rfl,HR.o,hm⟩|exact⟨k-1,h+1,j,FP,FP,FP,FP,FP,FP,by go_num,rfl,HR.o,hm⟩
     case measure=>simp[intOf];omega
   .rw[yr hge]at hR;have p6:decide ((i:Int)<j)=false:=an;have hF:=hR i rfl;obtain rfl:i=j:=FP
    unfold mB za at hF;clear hR HX HF hsr p5 p4;by_cases c1:i<m<;>by_cases c2:i<q<;>by_cases c3:a<i<;>by_cases c4:q+m-i<b
    all_goals(first|exfalso;omega|skip)
    all_goals(repeat' split at hF)
    all_goals(first|exfalso;omega|skip)
    all_goals
     have HF:=aa hF;clear hF
     first|have d1:decide ((i:Int)<m)=true:=az|have d1:decide ((i:Int)<m)=false:=an
     first|have d2:decide ((m:Int)<(q:Int)+m-i)=true:=az|have d2:decide ((m:Int)<(q:Int)+m-i)=false:=an
     first|have d3:decide ((a:Int)<i)=true:=az|have d3:decide ((a:Int)<i)=false:=an
     first|have d4:decide ((i:Int)<q)=true:=az|have d4:decide ((i:Int)<q)=false:=an
     first|have d5:decide ((q:Int)<(q:Int)+m-i)=true:=az|have d5:decide ((q:Int)<(q:Int)+m-i)=false:=an
     first|have d6:decide ((q:Int)+m-i<b)=true:=az|have d6:decide ((q:Int)+m-i<b)=false:=an
     go_wp2_with(first
     |go_at_call 292;refine MP (CR.o _ _ i (q+m-i) _ _ _ FP FP FP FP FP FP (Sub.refl _) hm) ?_;clear hm;intro w1 hm
     |go_at_call 283;refine MP (HI.o _ _ a i q _ _ _ FP FP FP FP FP FP FP (by repeat(first|exact Sub.refl _|refine Sub.eU ?_ FP FP)) hm) ?_;clear hm;intro w1 hm
     |go_at_call 283;refine MP (HI.o _ _ q (q+m-i) b _ _ _ FP FP FP FP FP FP FP (by repeat(first|exact Sub.refl _|refine Sub.de ?_ FP FP FP|refine Sub.eU ?_ FP FP)) hm) ?_;clear hm;intro w1 hm
     |refine U ?_;try(clear hm;intro w _ hm))
     go_end0
     exact⟨rfl,by rw[HF.o];exact hm⟩
end
section
variable{fc:FuncId}{v:NY}{C:Int->Int->Int}{D:Int->Prop}{w0 w:FC}{g:Nat}{T:ar}{rs:ae}{ss:O1}{l:ac}
def Ln(hC:Cmp fc v C D w0 g T rs ss){n:Nat}(c:Nat)(hs:n<=100000):∀(f:Nat)(l:ac),l.length=n->(∀x∈l,D x)->tI fc v C w0 g T rs ss l n c f
|0,_,_,_=>λ_ _ _ _ _ _ _ _ _ _ _ h4 h5 h6=>by omega
|f+1,l,hn,hD=>λW l' a m b x y z e1 e2 e3 h4 h5 h6 h7 h8 hm=>by
  subst e1 e2 e3;have hn':l'.length=n:=h8.len.trans hn;have hD':∀x∈l',D x:=λx hx=>hD x (h8.mem x hx);by_cases k1:m-a=1
  .rw[de,aQ k1];exact YB a hC hn' hs FP h6 h7 hD' hm
  .by_cases k2:b-m=1
   .rw[de,aP k1,aQ k2];exact S3 a m hC hn' hs FP FP h7 hD' hm
   .exact Vu hC hn' hs FP FP h7 h4 hD' (Ln hC c hs f l' hn' hD') hm
def ii(C:Int->Int->Int)(l:ac):Nat->ac
|0=>l
|k+1=>ff C (20*k) (ii C l k) 19
def ju(C:Int->Int->Int)(bs:Nat)(l:ac):Nat->ac
|0=>l
|k+1=>de C (2*bs) (2*bs*k) (2*bs*k+bs) (2*bs*k+2*bs) (ju C bs l k)
def gO(C:Int->Int->Int)(bs n:Nat)(l:ac):ac:=
 if 2*bs*(n/(2*bs))+bs<n then de C (2*bs) (2*bs*(n/(2*bs))) (2*bs*(n/(2*bs))+bs) n (ju C bs l (n/(2*bs)))else ju C bs l (n/(2*bs))
def ic(C:Int->Int->Int)(n:Nat):Nat->Nat->ac->ac
|0,_,l=>l
|f+1,bs,l=>if bs<n then ic C n f (2*bs) (gO C bs n l)else l
def ij(C:Int->Int->Int)(l:ac):ac:=ic C l.length 20 20 (ff C (20*(l.length/20)) (ii C l (l.length/20)) (l.length-20*(l.length/20)-1))
def Sub.ii{C:Int->Int->Int}{l:ac}:∀{k:Nat},20*k<=l.length->Sub l (ii C l k)
|0,_=>.refl l
|k+1,h=>by
  have h1:=Sub.ii (C:=C) (l:=l) (k:=k) FP;have:=h1.len;exact h1.trans (Sub.ff FP)
def Sub.ju{C:Int->Int->Int}{bs:Nat}(hb:0<bs){l:ac}:∀{k:Nat},2*bs*k<=l.length->Sub l (ju C bs l k)
|0,_=>.refl l
|k+1,h=>by
  rw[Nat.mul_succ]at h;have h1:=Sub.ju (C:=C) hb (l:=l) (k:=k) FP;exact h1.trans (Sub.de (.refl _) FP FP (by rw[h1.len];omega))
def Sub.gO{C:Int->Int->Int}{bs:Nat}(hb:0<bs){l:ac}:Sub l (gO C bs l.length l):=by
 have h1:=Nat.mul_div_le l.length (2*bs);have h2:=Sub.ju (C:=C) hb (l:=l) (k:=l.length/(2*bs)) h1;unfold YtkpbhdhkdonghaaGreat.gO;split
 .exact h2.trans (Sub.de (.refl _) FP FP (by rw[h2.len];omega))
 .exact h2
def Sub.ic{C:Int->Int->Int}:∀{f bs:Nat}{l:ac},0<bs->Sub l (ic C l.length f bs l)
|0,_,l,_=>.refl l
|f+1,bs,l,hb=>by
  rw[YtkpbhdhkdonghaaGreat.ic];split
  .have h1:=Sub.gO (C:=C) hb (l:=l);have h2:=Sub.ic (C:=C) (f:=f) (bs:=2*bs) (l:=YtkpbhdhkdonghaaGreat.gO C bs l.length l) FP;rw[h1.len]at h2;exact h1.trans h2
  .exact .refl l
def Sub.st0{C:Int->Int->Int}{l:ac}:Sub l (YtkpbhdhkdonghaaGreat.ff C (20*(l.length/20)) (YtkpbhdhkdonghaaGreat.ii C l (l.length/20)) (l.length-20*(l.length/20)-1)):=by
 have h1:=Sub.ii (C:=C) (l:=l) (k:=l.length/20) FP;rcases qw (l.length-20*(l.length/20)-1)with h|h
 .rw[h];exact h1
 .exact h1.trans (Sub.ff (by rw[h1.len];omega))
def Sub.ij{C:Int->Int->Int}{l:ac}:Sub l (ij C l):=by
 have h1:=Sub.st0 (C:=C) (l:=l);have h2:=Sub.ic (C:=C) (f:=20) (bs:=20) (l:=YtkpbhdhkdonghaaGreat.ff C (20*(l.length/20)) (YtkpbhdhkdonghaaGreat.ii C l (l.length/20)) (l.length-20*(l.length/20)-1)) FP;rw[h1.len]at h2;exact h1.trans h2
def Aff{n c:Nat}(hC:Cmp fc v C D w0 g T rs ss)(hn:l.length=n)(hs:n<=100000)(hD:∀x∈l,D x)(hm:Own w0 w ((g,IR .i64 l T)::rs) ss):ak 260 #[.slice (some ⟨g,0,none⟩) n c,.int .i64 n,.func (.func fc) #[] #[v]] w (RO (.tuple #[]) w0 ((g,IR .i64 (ij C l) T)::rs) ss):=by
 have HD:=aa hD;have HS0:Hid (Sub l (ff C (20*(n/20)) (ii C l (n/20)) (n-20*(n/20)-1))/\ic C n 20 20 (ff C (20*(n/20)) (ii C l (n/20)) (n-20*(n/20)-1))=ij C l):=aa (by subst hn;exact⟨Sub.st0,rfl⟩)
 have CI:Hid (∀W l'(a b:Nat)(x y:Int),x=a->y=b->b<=n->a<=n->Sub l l'->Own w0 W ((g,IR .i64 l' T)::rs) ss->ak 282 #[.slice (some ⟨g,0,none⟩) n c,.int .i64 x,.int .i64 y,.func (.func fc) #[] #[v]] W (RO (.tuple #[]) w0 ((g,IR .i64 (ff C a l' (b-a-1)) T)::rs) ss)):=λW l' a b x y e1 e2 h1 h2 h3 h=>by
  subst e1 e2;exact S4 hC (h3.len.trans hn) hs h1 h2 (λx hx=>HD.o x (h3.mem x hx)) h
 have CM:Hid (∀f,tI fc v C w0 g T rs ss l n c f):=λf=>Ln hC c hs f l hn hD;have HN:=aa hn;clear hD hn;go_enter func260,ntmps260;go_wp2
 go_loopw[7,8] (λu u2 wr=>∃(k:Nat),20*k<=n/\u=.int .i64 (20*(k:Int))/\u2=.int .i64 (20*(k:Int)+20)/\Own w0 wr ((g,IR .i64 (ii C l k) T)::rs) ss) (λu _ _=>n+1-(intOf u).toNat)
 case atStart=>exact⟨0,FP,rfl,rfl,hm⟩
 case round=>
  clear hm;obtain⟨k,hk,rfl,rfl,hm⟩:=hrel;have hS:=Sub.ii (C:=C) (l:=l) (k:=k) (by rw[HN.o];exact hk);have HS:=aa hS;clear hS;rcases bF n (20*k+20)with hlt|hge
  .have p1:decide (20*(k:Int)+20<=n)=false:=an;have e:k=n/20:=FP
   have HK:=aa e;clear e
   go_wp2_with(first
   |go_at_call 282;refine MP (CI.o _ _ (20*k) n _ _ FP FP FP FP HS.o hm) ?_;clear hm;intro w1 hm
   |refine U ?_;try(clear hm;intro w _ hm))
   rw[HK.o]at hm
   go_loopw[6,7,8,9] (λu6 _ _ _ wr=>∃(f bs:Nat)(l':ac),0<bs/\n<=bs*2^f/\bs<=200000/\u6=.int .i64 bs/\Sub l l'/\ic C n f bs l'=ij C l/\Own w0 wr ((g,IR .i64 l' T)::rs) ss) (λu6 _ _ _ _=>n-(intOf u6).toNat)
   case atStart=>exact⟨20,20,_,FP,FP,FP,rfl,HS0.o.1,HS0.o.2,hm⟩
   case round=>
    clear hm;obtain⟨f,bs,l1,hb,hf,hb2,rfl,hS1,hR,hm⟩:=hrel;have HS1:=aa hS1;rcases bF bs n with hlt|hge
    .obtain⟨f,rfl⟩:∃e,f=e+1:=by
      cases f with
     |zero=>omega
     |succ f=>exact⟨f,rfl⟩
     rw[ic,aQ hlt]at hR;have hf2:n<=2*bs*2^f:=by rw[ou,sO (2^f) 2,<-Nat.mul_assoc,sO bs 2]at hf;exact hf
     have hP:=Sub.gO (C:=C) hb (l:=l1);rw[hS1.len.trans HN.o]at hP;have HQ:Hid (ic C n f (2*bs) (gO C bs n l1)=ij C l/\n<=2*bs*2^f/\Sub l (gO C bs n l1)):=aa ⟨hR,hf2,hS1.trans hP⟩;have hl1:=hS1.len.trans HN.o;have HL1:=aa hl1;have p2:decide ((bs:Int)<n)=true:=az;clear hR hf2 hP hS1 hf hl1;go_wp2
     go_loopw[7,8] (λu u2 wr=>∃(k A:Nat)(l':ac),Hid (A=2*bs*k)/\A<=n/\u=.int .i64 (A:Int)/\u2=.int .i64 ((A:Int)+2*bs)/\Hid (l'=ju C bs l1 k)/\Own w0 wr ((g,IR .i64 l' T)::rs) ss) (λu _ _=>n+1-(intOf u).toNat)
     case atStart=>exact⟨0,0,l1,aa rfl,FP,rfl,by go_num,aa rfl,hm⟩
     case round=>
      clear hm;obtain⟨k,A,l',HA,hA,rfl,rfl,HL,hm⟩:=hrel
      have hS2:Sub l l':=by
       rw[HL.o];exact HS1.o.trans (Sub.ju hb (by rw[HL1.o,<-HA.o];exact hA))
      have HS2:=aa hS2;clear hS2;rcases bF n (A+2*bs)with hlt2|hge2
      .have p3:decide ((A:Int)+2*bs<=n)=false:=an
       have hk:k=n/(2*bs):=by
        have h1:2*bs*k<=n:=by rw[<-HA.o];exact hA
        have h2:n<2*bs*(k+1):=by rw[Nat.mul_succ,<-HA.o];exact hlt2
        exact(Nat.div_eq_of_lt_le (by rw[sO];exact h1) (by rw[sO];exact h2)).symm
       have HP:Hid (gO C bs n l1=if A+bs<n then de C (2*bs) A (A+bs) n l' else l'):=aa (by rw[gO,<-hk,<-HA.o,<-HL.o]);clear hk;rcases bF (A+bs) n with hx|hx
       focus
        have p4:decide ((A:Int)+bs<n)=true:=az;have HP2:Hid (gO C bs n l1=de C (2*bs) A (A+bs) n l'):=aa (by rw[HP.o,aQ hx])
       rotate_left
       focus
        have p4:decide ((A:Int)+bs<n)=false:=an;have HP2:Hid (gO C bs n l1=l'):=aa (by rw[HP.o,aP FP])
       all_goals
        go_wp2_with(first
        |go_at_call 283;refine MP (CM.o (2*bs) _ _ A (A+bs) n _ _ _ FP FP FP FP FP FP FP HS2.o hm) ?_;clear hm;intro w1 hm
        |refine U ?_;try(clear hm;intro w _ hm))
        go_roundw
        case rel=>exact⟨f,2*bs,_,FP,HQ.o.2.1,FP,by go_num,HQ.o.2.2,HQ.o.1,by rw[HP2.o];exact hm⟩
        case measure=>simp[intOf];omega
      .have p3:decide ((A:Int)+2*bs<=n)=true:=az
       go_wp2_with(first
       |go_at_call 283;refine MP (CM.o (2*bs) _ _ A (A+bs) (A+2*bs) _ _ _ FP FP FP FP FP FP FP HS2.o hm) ?_;clear hm;intro w1 hm
       |refine U ?_;try(clear hm;intro w _ hm))
       go_roundw
       case rel=>exact⟨k+1,A+2*bs,_,aa (by rw[Nat.mul_succ,<-HA.o]),FP,by go_num,by go_num,aa (by rw[ju,<-HA.o,<-HL.o]),hm⟩
       case measure=>simp[intOf];omega
    .have p2:decide ((bs:Int)<n)=false:=an
     have HR:Hid (l1=ij C l):=aa (by
      rw[<-hR];cases f with
     |zero=>rfl
     |succ f=>rw[ic,aP FP])
     clear hR;go_wp2
     go_end0
     exact A4
  .have p1:decide (20*(k:Int)+20<=n)=true:=az
   go_wp2_with(first
   |go_at_call 282;refine MP (CI.o _ _ (20*k) (20*k+20) _ _ FP FP FP FP HS.o hm) ?_;clear hm;intro w1 hm
   |refine U ?_;try(clear hm;intro w _ hm))
   go_roundw
   case rel=>exact⟨k+1,FP,by go_num,by go_num,by rw[show 20*k+20-20*k-1=19 by omega]at hm;exact hm⟩
   case measure=>simp[intOf];omega
def AbD{n c:Nat}(hC:Cmp fc v C D w0 g T rs ss)(hn:l.length=n)(hs:n<=100000)(hD:∀x∈l,D x)(hm:Own w0 w ((g,IR .i64 l T)::rs) ss):ak 236 #[.slice (some ⟨g,0,none⟩) n c,.func (.func fc) #[] #[v]] w (RO (.tuple #[]) w0 ((g,IR .i64 (ij C l) T)::rs) ss):=by
 go_enter func236,ntmps236
 go_wp2_with(go_at_call 260;refine MP (Aff hC hn hs hD hm) ?_;clear hm;intro w1 hm)
 go_end0
 exact⟨rfl,hm⟩
end
section
variable{a b:Int}{t:ac}{ss:O1}{gt:Nat}{r x y:O9}{rs:ae}{w w0:FC}
def cK(t:ac):Nat->ac
|0=>[]
|k+1=>if 0<gi t k then cK t k++[(k:Int)]else cK t k
def wZ(t:ac)(a b:Int):Int:=eu (gi t a.toNat) (gi t b.toNat)
def OV(t:ac):ac:=ij (wZ t) (cK t 258)
def sI{t:ac}:∀{k:Nat},∀x∈cK t k,0<=x/\x<k
|0,x,h=>by cases h
|k+1,x,h=>by
  rw[cK]at h;split at h
  .rcases dG.1 h with h|h
   .have:=sI x h;omega
   .have:=fC.1 h;omega
  .have:=sI x h;omega
def pQ(t:ac):∀k,(cK t k).length<=k
|0=>aX 0
|k+1=>by
  have:=pQ t k;rw[cK];split
  .rw[aV];simp;omega
  .omega
def Ww(n:Int)(w:FC):ak 284 #[.int .u8 n] w (RW w (.bool false)):=by
 have q:(n !=n)=false:=bne_self_eq_false n;go_enter func284,ntmps284;go_wp2;exact eA
def Ub:ak 266 #[.int .u8 a,.int .u8 b] w (RW w (.int .i64 (eu a b))):=by
 have CN:Hid (∀n w,ak 284 #[.int .u8 n] w (RW w (.bool false))):=aa Ww;rw[eu];by_cases h1:a<b
 focus
  rw[aQ h1];have q1:=aW h1;have q2:=True.intro
 rotate_left
 focus
  rw[aP h1];have q1:=aU h1;by_cases h2:b<a
  focus
   rw[aQ h2];have q2:=aW h2
  rotate_left
  focus
   rw[aP h2];have q2:=aU h2
 all_goals
  go_enter func266,ntmps266
  go_wp2_with(go_at_call 284;refine MW (CN.o _ _) ?_)
  exact eA
def xL(hl:t.length=258)(hb:Bytes t):ak 244 #[.agg (J .u8 t)] w (RB w (.bool (decide (J6 t 258<=32768)))):=by
 have CF:=aa λw=>fits_any w hl hb;clear hb;go_enter func244,ntmps244;have hm:=Own.nil w
 go_wp2_with(first
 |refine Ag rfl rfl rfl (hm.row 0 rfl) (F5 hl) ?_
 |go_at_call 264;refine cB (CF.o _) hm ?_;clear hm;intro w1 hm
 |refine U ?_;try(clear hm;intro w g hm))
 go_ret;exact cL
def Own.AeE(h:Own w0 w (x::y::rs) ss):Own w0 w (x::rs) ss:=h.sub (.cons_cons x (.cons y (aY rs))) (aY _)
def Vp(hl:t.length=258)(ha:0<=a/\a<258)(hb:0<=b/\b<258)(hm:Own w0 w (r::(gt,J .i64 t)::rs) ss):ak 237 #[.int .i64 a,.int .i64 b,gt] w (RO (.int .i64 (wZ t a b)) w0 (r::(gt,J .i64 t)::rs) ss):=by
 obtain⟨a,rfl⟩:=dB ha.1;obtain⟨b,rfl⟩:=dB hb.1;have h1:a<258:=FP
 have h2:b<258:=FP
 clear ha hb;go_enter func237,ntmps237
 go_wp2_with(first
 |refine nF a ?_
 |refine nF b ?_
 |go_at_call 207;refine MW (LT _ _ _) ?_
 |refine U ?_;try(clear hm;intro w _ hm))
 exact gR
def pord(hl:t.length=258)(hb:∀x∈t,0<=x/\x<=2147483647)(hp:0<(cK t 258).length)(hm:Own w0 w rs ss):ak 195 #[.agg (J .i64 t)] w λe w'=>∃g c T,e=.returned (.slice (some ⟨g,0,none⟩) (OV t).length c)/\Own w0 w' ((g,IR .i64 (OV t) T)::rs) ss:=by
 have HL:=aa hl;have CV:Hid (∀w,ak 196 #[.agg (J .i64 t)] w (RB w (.bool true))):=λw=>Ly hl hb;go_enter func195,ntmps195
 go_wp2_with(first
 |refine Ag rfl rfl rfl (hm.row 0 rfl) (gh hl) ?_
 |go_at_call 196;refine cB (CV.o _) hm ?_;clear hm;intro w1 hm
 |refine U ?_;try(clear hm;intro w gt hm))
 replace hm:=hm.vm 3
 go_loopw[2,9] (λu u9 wr=>∃(k n:Nat)(ad:Ov)(c:Nat),k<=258/\u9=.int .i64 k/\u=.slice ad n c/\Hid ((cK t k).length=n)/\n<=258/\Own w0 wr ((gt,J .i64 t)::rs) ((.slice ad n c,3,vs .i64 (cK t k))::ss)) (λ_ u9 _=>258-(intOf u9).toNat)
 case atStart=>exact⟨0,0,none,0,FP,rfl,rfl,aa rfl,FP,hm⟩
 case round=>
  clear hm;obtain⟨k,n,ad,c,hk,rfl,rfl,HN,hn,hm⟩:=hrel;rcases bF k 258 with hlt|hge
  .have hg:(J .i64 t)[k]?=some (.int .i64 (gi t k)):=XC .i64 t k FP;have hnk:n<=k:=by rw[<-HN.o];exact pQ t k
   have hc:(0<gi t k/\cK t (k+1)=cK t k++[(k:Int)])\/(¬0<gi t k/\cK t (k+1)=cK t k):=by
    exact OR
   rcases hc with⟨hx,hz⟩|⟨hx,hz⟩
   focus
    have q1:=aW hx
   rotate_left
   focus
    have q1:=aU hx
   all_goals
    have HZ:=aa hz;clear hz hx
    go_wp2_with(first
    |refine A8 rfl (DZ rfl rfl rfl underlying227 DR hlt hg) ?_
    |refine uV hm ?_;clear hm;intro w _ hm
    |refine uG hm ?_ (hn:=(Ai _ _).trans HN.o);clear hm;intro w ad c hm
    |refine U ?_;try(clear hm;intro w _ hm))
    exact Pb
  .obtain rfl:k=258:=FP
   obtain⟨g,c2,T,e1,hcn,hm2⟩:=hm.toIR hp;clear hm;rw[HN.o]at e1;cases e1;have hm:=hm2;clear hm2;have hC:Cmp 237 (.pointer gt) (wZ t) (λx=>0<=x/\x<258) w0 g T ((gt,J .i64 t)::rs) ss:=⟨λargs w=>by simp[callFunc];kernel_rfl,λW l a b ha hb h=>Vp HL.o ha hb h⟩;exact Pd
def Tf(hl:t.length=258)(ha:0<=a/\a<258)(hb:0<=b/\b<258)(hm:Own w0 w (r::(gt,J .u8 t)::rs) ss):ak 265 #[.int .i64 a,.int .i64 b,gt] w (RO (.int .i64 (wZ t a b)) w0 (r::(gt,J .u8 t)::rs) ss):=by
 obtain⟨a,rfl⟩:=dB ha.1;obtain⟨b,rfl⟩:=dB hb.1;have h1:a<258:=FP
 have h2:b<258:=FP
 clear ha hb;go_enter func265,ntmps265
 go_wp2_with(first
 |refine nF a ?_
 |refine nF b ?_
 |go_at_call 266;refine MW Ub ?_
 |refine U ?_;try(clear hm;intro w _ hm))
 exact gR
def PD(hl:t.length=258)(hb:Bytes t)(hk:J6 t 258<=32768)(hp:0<(cK t 258).length)(hm:Own w0 w rs ss):ak 245 #[.agg (J .u8 t)] w λe w'=>∃g c T,e=.returned (.slice (some ⟨g,0,none⟩) (OV t).length c)/\Own w0 w' ((g,IR .i64 (OV t) T)::rs) ss:=by
 have HL:=aa hl;have CV:Hid (∀w,ak 244 #[.agg (J .u8 t)] w (RB w (.bool true))):=λw=>(xL hl hb).mono λe w' h=>⟨by rw[h.1,aW hk],h.2⟩;go_enter func245,ntmps245
 go_wp2_with(first
 |refine Ag rfl rfl rfl (hm.row 0 rfl) (F5 hl) ?_
 |go_at_call 244;refine cB (CV.o _) hm ?_;clear hm;intro w1 hm
 |refine U ?_;try(clear hm;intro w gt hm))
 replace hm:=hm.vm 3
 go_loopw[2,9] (λu u9 wr=>∃(k n:Nat)(ad:Ov)(c:Nat),k<=258/\u9=.int .i64 k/\u=.slice ad n c/\Hid ((cK t k).length=n)/\n<=258/\Own w0 wr ((gt,J .u8 t)::rs) ((.slice ad n c,3,vs .i64 (cK t k))::ss)) (λ_ u9 _=>258-(intOf u9).toNat)
 case atStart=>exact⟨0,0,none,0,FP,rfl,rfl,aa rfl,FP,hm⟩
 case round=>
  clear hm;obtain⟨k,n,ad,c,hk,rfl,rfl,HN,hn,hm⟩:=hrel;rcases bF k 258 with hlt|hge
  .have hg:(J .u8 t)[k]?=some (.int .u8 (gi t k)):=XC .u8 t k FP;have hnk:n<=k:=by rw[<-HN.o];exact pQ t k
   have hc:(0<gi t k/\cK t (k+1)=cK t k++[(k:Int)])\/(¬0<gi t k/\cK t (k+1)=cK t k):=by
    exact OR
   rcases hc with⟨hx,hz⟩|⟨hx,hz⟩
   focus
    have q1:=aW hx
   rotate_left
   focus
    have q1:=aU hx
   all_goals
    have HZ:=aa hz;clear hz hx
    go_wp2_with(first
    |refine A8 rfl (DZ rfl rfl rfl underlying139 FV hlt hg) ?_
    |refine uV hm ?_;clear hm;intro w _ hm
    |refine uG hm ?_ (hn:=(Ai _ _).trans HN.o);clear hm;intro w ad c hm
    |refine U ?_;try(clear hm;intro w _ hm))
    exact Pb
  .obtain rfl:k=258:=FP
   obtain⟨g,c2,T,e1,hcn,hm2⟩:=hm.toIR hp;clear hm;rw[HN.o]at e1;cases e1;have hm:=hm2;clear hm2;have hC:Cmp 265 (.pointer gt) (wZ t) (λx=>0<=x/\x<258) w0 g T ((gt,J .u8 t)::rs) ss:=⟨λargs w=>by simp[callFunc];kernel_rfl,λW l a b ha hb h=>Tf HL.o ha hb h⟩;exact Pd
end
end Go.Proofs.YtkpbhdhkdonghaaGreat
