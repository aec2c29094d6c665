/- Part 22 of the proof. -/
import Derived.Test.YtkpbhdhkdonghaaGreatS17
import Derived.Test.YtkpbhdhkdonghaaGreatS20
import Derived.Test.YtkpbhdhkdonghaaGreatS21
set_option linter.all false
set_option maxHeartbeats 4000000
set_option maxRecDepth 100000
set_option linter.all false
namespace Go.Proofs.YtkpbhdhkdonghaaGreat
open Go Go.RowKit
inductive ba where
|head (n:Int)
|block (m p s:Int)
|bytes (t:ac)
|U5 (m p s:Int)
|tail (s:Int)
|fin
|bad (e:Int)
|need
inductive PS where
|head (t:HT)
|mark (n:Int) (t:MT)
|table (n m p s:Int) (t:TT)
|syms (n m p s:Int) (L:ac) (c:Int) (k:Nat) (b:DS)
|pad (n m p s:Int)
|behind
|over
|bad (e:Int)
structure Cf where
 s:PS
 R:ac
 j:Nat
def zpad(R:ac)(j:Nat):Bool:=(List.range (8*((j+7)/8)-j)).all λi=>AP R (j+i)=0
def Oj(n m p s:Int)(t:TT)(R:ac)(j:Nat):Option ba×Cf:=
 if(t.next (AP R j)).2 then(if(t.next (AP R j)).1.s=258 then(none,⟨.syms n m p s (t.next (AP R j)).1.l 0 0 (dNew m),R,j+1⟩)else(none,⟨.table n m p s (t.next (AP R j)).1,R,j+1⟩))else(some (.bad 100),⟨.bad 100,R,j+1⟩)
def MQ(n m p s:Int)(L:ac)(c:Int)(k:Nat)(d:DS×ac×Bool×Int)(R:ac)(j:Nat):Option ba×Cf:=
 if d.2.2.2=0 then(if 0<d.2.1.length then some (.bytes d.2.1)else none,⟨if d.2.2.1 then .pad n m p s else .syms n m p s L c k d.1,R,j⟩)else(some (.bad d.2.2.2),⟨.bad d.2.2.2,R,j⟩)
def eY(n m p s:Int)(L:ac)(c:Int)(k:Nat)(b:DS)(R:ac)(j:Nat):Option ba×Cf:=
 if(aR L c k (AP R j)).2.2.2=true then MQ n m p s L (aR L c k (AP R j)).1 (aR L c k (AP R j)).2.1 (FY b (aR L c k (AP R j)).2.2.1) R (j+1)else(none,⟨.syms n m p s L (aR L c k (AP R j)).1 (aR L c k (AP R j)).2.1 b,R,j+1⟩)
def Qs(r:HR)(R:ac)(j:Nat):Option ba×Cf:=match r with
|.go t=>(none,⟨.head t,R,j⟩)
|.done n=>(some (.head n),⟨.mark n .mark,R,j⟩)
|.bad e=>(some (.bad e),⟨.bad e,R,j⟩)
def MX(n:Int)(r:MR)(R:ac)(j:Nat):Option ba×Cf:=match r with
|.go t=>(none,⟨.mark n t,R,j⟩)
|.block m p s=>(some (.block m p s),⟨.table n m p s bz,R,j⟩)
|.tail s=>(some (.tail s),⟨.behind,R,j⟩)
|.bad=>(some (.bad 242),⟨.bad 242,R,j⟩)
def AB(c:Cf):Option ba×Cf:=match c.s with
|.head t=>match c.R with
 |[]=>(some (.bad 50),⟨.bad 50,c.R,c.j⟩)
 |x::R=>Qs (t.step x) R 0
|.mark n t=>match c.R with
 |[]=>(some (.bad 50),⟨.bad 50,c.R,c.j⟩)
 |x::R=>MX n (t.step n x) R 0
|.table n m p s t=>if c.j<8*c.R.length then Oj n m p s t c.R c.j else(some (.bad 50),⟨.bad 50,c.R,c.j⟩)
|.syms n m p s L q k b=>if c.j<8*c.R.length then eY n m p s L q k b c.R c.j else(some (.bad 50),⟨.bad 50,c.R,c.j⟩)
|.pad n m p s=>if zpad c.R c.j then(some (.U5 m p s),⟨.mark n .mark,c.R.drop ((c.j+7)/8),0⟩)else(some (.bad 160),⟨.bad 160,c.R.drop ((c.j+7)/8),0⟩)
|.behind=>if 0<c.R.length then(some (.bad 261),⟨.bad 261,c.R,c.j⟩)else(some .fin,⟨.over,c.R,c.j⟩)
|.over=>(some .fin,c)
|.bad e=>(some (.bad e),c)
def Cf.mu(c:Cf):Nat:=match c.s with
|.head _=>8*c.R.length+1
|.mark _ _=>8*c.R.length+1
|.table _ _ _ _ _=>8*c.R.length-c.j+2
|.syms _ _ _ _ _ _ _ _=>8*c.R.length-c.j+2
|.pad _ _ _ _=>8*c.R.length-c.j+2
|.behind=>8*c.R.length+1
|.over=>0
|.bad _=>0
def ba.last:ba->Bool
|.fin=>true
|.bad _=>true
|.need=>true
|_=>false
def H6:Option ba->Bool
|none=>false
|some e=>e.last
def Ol(c:Cf)(h:H6 (AB c).1=false):(AB c).2.mu<c.mu:=by
 obtain⟨s,R,j⟩:=c;cases s with
|head t=>
  cases R with
 |nil=>simp[AB,H6,ba.last]at h
 |cons x R=>
   simp only[AB]at h⊢;cases hr:t.step x<;>simp[Qs,H6,ba.last,Cf.mu]at h⊢<;>try omega
|mark n t=>
  cases R with
 |nil=>simp[AB,H6,ba.last]at h
 |cons x R=>
   simp only[AB]at h⊢;cases hr:t.step n x<;>simp[MX,H6,ba.last,Cf.mu]at h⊢<;>try omega
|table n m p s t=>
  simp only[AB]at h⊢;by_cases hj:j<8*R.length
  .rw[aQ hj]at h⊢;simp only[Oj]at h⊢;by_cases h1:(t.next (AP R j)).2=true
   .rw[aQ h1]at h⊢;by_cases h2:(t.next (AP R j)).1.s=258
    .rw[aQ h2]at h⊢;simp[Cf.mu];omega
    .rw[aP h2]at h⊢;simp[Cf.mu];omega
   .rw[aP h1]at h;simp[H6,ba.last]at h
  .rw[aP hj]at h;simp[H6,ba.last]at h
|syms n m p s L q k b=>
  simp only[AB]at h⊢;by_cases hj:j<8*R.length
  .rw[aQ hj]at h⊢;simp only[eY]at h⊢;by_cases h1:(aR L q k (AP R j)).2.2.2=true
   .rw[aQ h1]at h⊢;generalize FY b (aR L q k (AP R j)).2.2.1=d at*;simp only[MQ]at h⊢;by_cases h2:d.2.2.2=0
    .rw[aQ h2]at h⊢;cases d.2.2.1<;>simp[Cf.mu]<;>omega
    .rw[aP h2]at h;simp[H6,ba.last]at h
   .rw[aP h1]at h⊢;simp[Cf.mu];omega
  .rw[aP hj]at h;simp[H6,ba.last]at h
|pad n m p s=>
  simp only[AB]at h⊢;by_cases h1:zpad R j=true
  .rw[aQ h1]at h⊢;simp[Cf.mu];omega
  .rw[aP h1]at h;simp[H6,ba.last]at h
|behind=>
  simp only[AB]at h;split at h<;>simp[H6,ba.last]at h
|over=>simp[AB,H6,ba.last]at h
|bad e=>simp[AB,H6,ba.last]at h
def starved(c:Cf):Bool:=match c.s with
|.head _=>c.R.isEmpty
|.mark _ _=>c.R.isEmpty
|.table _ _ _ _ _=>!decide (c.j<8*c.R.length)
|.syms _ _ _ _ _ _ _ _=>!decide (c.j<8*c.R.length)
|.behind=>c.R.isEmpty
|_=>false
def br(en:Bool)(c:Cf):Option ba×Cf:=if(!en&&starved c)=true then(some .need,c)else AB c
def uc{en:Bool}(c:Cf)(h:H6 (br en c).1=false):(br en c).2.mu<c.mu:=by
 unfold br at h⊢;split at h
 .cases h
 .rename_i hc;rw[aP hc];exact Ol c h
inductive cJ(en:Bool):Cf->ba->Cf->Prop where
|now {c:Cf} {ev:ba} {c2:Cf} (h:br en c=(some ev,c2)):cJ en c ev c2
|later {c:Cf} {ev:ba} {c2:Cf} (h:(br en c).1=none) (hn:cJ en (br en c).2 ev c2):cJ en c ev c2
def cJ.mu{en:Bool}{c c2:Cf}{ev:ba}(h:cJ en c ev c2)(hl:ev.last=false):c2.mu<c.mu:=by
 induction h with
|now h=>have:=uc _ (by rw[h];exact hl);rwa[h]at this
|later h _ ih=>have:=uc _ (by rw[h];rfl);have:=ih hl;omega
open Go Tryz Go.RowKit
def BU(gr F:Nat)(en:Bool)(R:ac)(j:Nat)(rs RR:ae):Prop:=∃(X E:ae)(v:NY)(used:Int),RR=(gr,RD v ((j%8:Nat):Int) used en)::(X++(E++rs))/\Tail X v (R.drop (j/8))/\Bytes R/\R.length<=F/\j<=8*R.length/\0<=used/\(used+((8*R.length-j:Nat):Int)=8*F/\F<=4000000)
def V4(c:Cf)(k:Nat)(hs ms ts cs ds er:ai):Prop:=match c.s with
|.head t=>k=0/\c.j=0/\t.ok/\hs=t.v/\ms=MS 0 0 0 0 0 0 0
|.mark n t=>k=1/\c.j=0/\1<=n/\n<=65536/\t.ok n/\hs=HS 4 0 0 n/\ms=t.v
|.table n m p s t=>k=2/\1<=n/\n<=65536/\1<=m/\m<=n/\t.ok/\hs=HS 4 0 0 n/\ms=MS 4 0 0 m p s 4/\ts=t.v
|.syms n _ _ _ L q i b=>k=3/\1<=n/\n<=65536/\Uk L q i/\Vl b.l/\hs=HS 4 0 0 n/\cs=CS L q i/\ds=V b
|.pad n _ _ _=>k=4/\1<=n/\n<=65536/\hs=HS 4 0 0 n
|.behind=>k=5/\c.j=0
|.over=>k=6
|.bad e=>k=7/\er=ER e/\e≠0
def Rel(gp gr F:Nat)(en:Bool)(rs:ae)(c:Cf)(R:ae):Prop:=∃(k:Nat)(hs ms ts cs ds er:ai)(RR:ae),R=(gp,PR (PT ((k:Nat)+1)) hs ms ts cs ds er)::RR/\k<8/\aq (PT ((k:Nat)+1)) hs ms ts cs ds er/\V4 c k hs ms ts cs ds er/\BU gr F en c.R c.j rs RR
def yR(X:ae):ba->Int->Int->Int->Int->Int->Value->Int->Prop
|.head n,kd,n2,_,_,_,_,_=>kd=2/\n2=n/\X=[]
|.block m p s,kd,_,m2,p2,s2,_,_=>kd=3/\m2=m/\p2=p/\s2=s/\X=[]
|.bytes t,kd,_,_,_,_,v,_=>kd=4/\0<t.length/\gE X v (vs .u8 t)
|.U5 _ _ _,kd,_,_,_,_,_,_=>kd=5/\X=[]
|.tail s,kd,_,_,_,s2,_,_=>kd=6/\s2=s/\X=[]
|.fin,kd,_,_,_,_,_,_=>kd=7/\X=[]
|.bad e,kd,_,_,_,_,_,e2=>kd=8/\e2=e/\e≠0/\X=[]
|.need,kd,_,_,_,_,_,_=>kd=1/\X=[]
def Im(X:ae)(o:Option ba)(kd n m p s:Int)(v:NY)(e:Int):Prop:=match o with
|none=>X=[]
|some ev=>yR X ev kd n m p s v e
def bx(gp gr F:Nat)(en:Bool)(rs:ae)(w0:FC)(ss:O1)(c:Cf)(x:Ending)(w':FC):Prop:=∃kd n m p s v e X R,x=.returned (.tuple #[.agg (aw kd n m p s v e),.bool (br en c).1.isSome])/\v.oneCell'=true/\Own w0 w' (X++R) ss/\Rel gp gr F en rs (br en c).2 R/\Im X (br en c).1 kd n m p s v e
def X9(R:ac)(j:Nat)(hj:j<8*R.length):pk (R.drop (j/8)) (j%8) 1=AP R j:=by
 have h1:(j%8+1+7)/8=1:=FP
 have h2:1*8-j%8-1=7-j%8:=FP
 have h3:j/8<R.length:=FP
 rw[pk,h1,h2,AP]
 exact Bt
def Xg(x:Int)(R:ac)(h0:0<=x)(h1:x<=255):pk (x::R) 0 8=x:=by
 have:x%256=x:=FP
 simpa[pk,big]using this
def Own.jA{w0 w:FC}{g p q:O9}{X rs:ae}{ss:O1}(h:Own w0 w (g::p::q::(X++rs)) ss):Own w0 w (p::q::(X++(g::rs))) ss:=h.perm (jo (l₁:=p::q::X))
def Own.Xj{w0 w:FC}{g p q:O9}{X rs:ae}{ss:O1}(h:Own w0 w (p::q::(X++(g::rs))) ss):Own w0 w (g::p::q::(X++rs)) ss:=h.perm (jo (l₁:=p::q::X)).symm
section
variable{gp gr F:Nat}{en:Bool}{pt hs ms ts cs ds er:ai}{R:ac}{j:Nat}{rs RR:ae}{w0:FC}{ss:O1}
def take1(hz:aq pt hs ms ts cs ds er)(hr:BU gr F en R j rs RR)(hj:j<8*R.length):∀W g,Own w0 W (g::(gp,PR pt hs ms ts cs ds er)::RR) ss->ak 124 #[gp,gr,.int .i64 1] W λx w'=>(x=.returned (.tuple #[.int .u32 (AP R j),.agg (aw 0 0 0 0 0 (.slice none 0 0) 0),.bool true]))/\∃RR',BU gr F en R (j+1) rs RR'/\Own w0 w' (g::(gp,PR pt hs ms ts cs ds er)::RR') ss:=by
 intro W g hm;obtain⟨X,E,v,used,rfl,ht,hB,hl,_,hu0,hu⟩:=hr;refine(ig (R.drop (j/8)) (j%8) 1 (g::(E++rs)) hm.jA hz ht G8 FP FP FP hu0 FP (λx hx=>hB x (iw hx)) G8).mono ?_;rintro x w'⟨rfl,v2,ht2,hm2⟩;rw[X9 R j hj];refine⟨rfl,_,⟨X,E,v2,used+1,?_,?_,hB,hl,FP,FP,FP⟩,hm2.Xj⟩
 .have e:(j%8+1)%8=(j+1)%8:=FP
  rw[e];rfl
 .have e:(R.drop (j/8)).drop ((j%8+1)/8)=R.drop ((j+1)/8):=by
   rw[xR];congr 1;omega
  rwa[e]at ht2
def take8(hz:aq pt hs ms ts cs ds er){y:Int}(hr:BU gr F en (y::R) 0 rs RR):∀W g,Own w0 W (g::(gp,PR pt hs ms ts cs ds er)::RR) ss->ak 124 #[gp,gr,.int .i64 8] W λx w'=>(x=.returned (.tuple #[.int .u32 y,.agg (aw 0 0 0 0 0 (.slice none 0 0) 0),.bool true]))/\∃RR',BU gr F en R 0 rs RR'/\Own w0 w' (g::(gp,PR pt hs ms ts cs ds er)::RR') ss:=by
 intro W g hm;obtain⟨X,E,v,used,rfl,ht,hB,hl,_,hu0,hu⟩:=hr;have hy:=hB y G5;simp only[bD]at hl hu;refine(ig (y::R) 0 8 (g::(E++rs)) hm.jA hz ht G8 FP FP FP hu0 FP hB G8).mono ?_;rintro x w'⟨rfl,v2,ht2,hm2⟩;rw[Xg y R hy.1 FP];exact⟨rfl,_,⟨X,E,v2,used+8,rfl,ht2,λx hx=>hB x (fB _ hx),FP,FP,FP,FP⟩,hm2.Xj⟩
def take0(n:Nat)(hn:1<=n)(hn8:n<=8)(hz:aq pt hs ms ts cs ds er)(hr:BU gr F true R j rs RR)(hj:¬j<8*R.length):∀W g,Own w0 W (g::(gp,PR pt hs ms ts cs ds er)::RR) ss->ak 124 #[gp,gr,.int .i64 n] W λx w'=>(x=.returned (.tuple #[.int .u32 0,.agg (aw 8 0 0 0 0 (.slice none 0 0) 50),.bool false]))/\∃RR',BU gr F true R j rs RR'/\Own w0 w' (g::(gp,PR (PT 8) hs ms ts cs ds (ER 50))::RR') ss:=by
 intro W g hm;obtain⟨X,E,v,used,rfl,ht,hB,hl,hj2,hu0,hu⟩:=hr;have e:j%8=0:=FP
 refine(a0k (R.drop (j/8)) (j%8) (g::(E++rs)) hm.jA hz ht G8 FP hn8 hn hu0 FP G8 rfl).mono ?_;exact Lw
def takeN(n:Nat)(hn:1<=n)(hn8:n<=8)(hz:aq pt hs ms ts cs ds er)(hr:BU gr F false R j rs RR)(hj:¬j<8*R.length):∀W g,Own w0 W (g::(gp,PR pt hs ms ts cs ds er)::RR) ss->ak 124 #[gp,gr,.int .i64 n] W λx w'=>(x=.returned (.tuple #[.int .u32 0,.agg (aw 1 0 0 0 0 (.slice none 0 0) 0),.bool false]))/\∃RR',BU gr F false R j rs RR'/\Own w0 w' (g::(gp,PR pt hs ms ts cs ds er)::RR') ss:=by
 intro W g hm;obtain⟨X,E,v,used,rfl,ht,hB,hl,hj2,hu0,hu⟩:=hr;have e:j%8=0:=FP
 refine(A5H (R.drop (j/8)) (j%8) (g::(E++rs)) hm.jA hz ht G8 FP hn8 hn hu0 FP G8 rfl).mono ?_;exact Lw
end
section
variable{pt:ai}{c c2:Cf}{t:HT}{e kd m n p s y:Int}{R2:ac}{j2 k:Nat}
section
variable{gp gr F:Nat}{en:Bool}{hs ms ts cs ds er:ai}{R:ac}{j:Nat}{rs RR:ae}{w0 w w':FC}{ss:O1}
def bx.of{o:Option ba}{v:NY}(hc:br en c=(o,c2))(hv:v.oneCell'=true)(hm:Own w0 w' ((gp,PR (PT ((k:Nat)+1)) hs ms ts cs ds er)::RR) ss)(hk:k<8)(hz:aq (PT ((k:Nat)+1)) hs ms ts cs ds er)(hp:V4 c2 k hs ms ts cs ds er)(hr:BU gr F en c2.R c2.j rs RR)(he:Im [] o kd n m p s v e):bx gp gr F en rs w0 ss c (.returned (.tuple #[.agg (aw kd n m p s v e),.bool o.isSome])) w':=by
 unfold bx;rw[hc];exact⟨kd,n,m,p,s,v,e,[],_,rfl,hv,hm,⟨k,hs,ms,ts,cs,ds,er,RR,rfl,hk,hz,hp,hr⟩,he⟩
def bx.bad(hc:br en c=(some (.bad e),⟨.bad e,R2,j2⟩))(hm:Own w0 w' ((gp,PR (PT 8) hs ms ts cs ds (ER e))::RR) ss)(hz:hs.size=4/\ms.size=7/\ts.size=262/\cs.size=260/\ds.size=260)(hr:BU gr F en R2 j2 rs RR)(h0:e≠0:=by decide):bx gp gr F en rs w0 ss c (.returned (.tuple #[.agg (aw 8 n m p s (.slice none 0 0) e),.bool true])) w':=
 bx.of (k:=7) hc rfl hm FP ⟨rfl,hz.1,hz.2.1,hz.2.2.1,hz.2.2.2.1,hz.2.2.2.2,rfl⟩ ⟨rfl,rfl,h0⟩ hr ⟨rfl,rfl,h0,rfl⟩
def aq.five(hz:aq pt hs ms ts cs ds er):hs.size=4/\ms.size=7/\ts.size=262/\cs.size=260/\ds.size=260:=⟨hz.hs,hz.ms,hz.ts,hz.cs,hz.ds⟩
def BU.bd(hr:BU gr F en (y::R) j rs RR):0<=y/\y<=255:=by
 obtain⟨X,E,v,used,_,_,hB,_⟩:=hr;have:=hB y G5;omega
def A0F(hm:Own w0 w ((gp,PR (PT 1) hs ms ts cs ds er)::RR) ss)(hz:aq (PT 1) hs ms ts cs ds er)(hp:V4 ⟨.head t,R,j⟩ 0 hs ms ts cs ds er)(hr:BU gr F en R j rs RR):ak 78 #[gp,gr] w (bx gp gr F en rs w0 ss ⟨.head t,R,j⟩):=by
 have hp0:=hp;obtain⟨_,hj,ho,rfl,rfl⟩:=hp;obtain rfl:j=0:=hj;cases R with
|nil=>
  cases en with
 |true=>
   refine(sW hm (BU gr F true [] 0 rs) 8 50 (aa (take0 8 FP FP hz hr G5))).mono ?_;exact BI
 |false=>
   refine(sW hm (BU gr F false [] 0 rs) 1 0 (aa (takeN 8 FP FP hz hr G5))).mono ?_;rintro x w'⟨rfl,RR',hQ,hm⟩;exact bx.of (k:=0) (c2:=⟨.head t,[],0⟩) (o:=some .need) rfl rfl hm FP hz hp0 hQ ⟨rfl,rfl⟩
|cons y R=>
  have CT:=aa (take8 (gp:=gp) (w0:=w0) (ss:=ss) hz hr);obtain⟨c0,c1⟩:=hr.bd;have CS:=λw=>VA ho y c0 c1 w;have hok:=HT.step_ok ho c0 c1;cases ht:t.step y with
 |go t2=>
   rw[ht]at hok;simp only[ht]at CS;refine(vX t.a t.V t.M t2.a t2.V t2.M c0 c1 hm (BU gr F en R 0 rs) CT (aa CS) hz).mono ?_;rintro x w'⟨rfl,RR',hQ,hm⟩;exact bx.of (k:=0) (c2:=⟨.head t2,R,0⟩) (o:=none) KZ rfl hm FP ⟨rfl,rfl,hz.ms,hz.ts,hz.cs,hz.ds,hz.er⟩ ⟨rfl,rfl,hok,rfl,rfl⟩ hQ rfl
 |done n=>
   rw[ht]at hok;simp only[ht]at CS;refine(a11 t.a t.V t.M c0 c1 hm (BU gr F en R 0 rs) CT (aa CS) hz).mono ?_;rintro x w'⟨rfl,RR',hQ,hm⟩;exact bx.of (k:=1) (c2:=⟨.mark n .mark,R,0⟩) (o:=some (.head n)) KZ rfl hm FP ⟨rfl,rfl,hz.ms,hz.ts,hz.cs,hz.ds,hz.er⟩ ⟨rfl,rfl,hok.1,hok.2,trivial,rfl,rfl⟩ hQ ⟨rfl,rfl,rfl⟩
 |bad e=>
   rw[ht]at hok;simp only[ht]at CS;have he:e≠0:=by rcases hok with h|h|h<;>omega
   refine(nG t.a t.V t.M c0 c1 hm (BU gr F en R 0 rs) CT (aa CS) hz he).mono ?_;rintro x w'⟨rfl,RR',hQ,hm⟩;exact bx.bad KZ hm hz.five hQ he
def MT.qK(t:MT):∃a V M m p s k,t.v=MS a V M m p s k:=by cases t<;>exact⟨_,_,_,_,_,_,_,rfl⟩
def Q3{t:MT}(hm:Own w0 w ((gp,PR (PT 2) hs ms ts cs ds er)::RR) ss)(hz:aq (PT 2) hs ms ts cs ds er)(hp:V4 ⟨.mark n t,R,j⟩ 1 hs ms ts cs ds er)(hr:BU gr F en R j rs RR):ak 80 #[gp,gr] w (bx gp gr F en rs w0 ss ⟨.mark n t,R,j⟩):=by
 have hp0:=hp;obtain⟨_,hj,n1,n2,ho,rfl,rfl⟩:=hp;obtain rfl:j=0:=hj;cases R with
|nil=>
  cases en with
 |true=>
   refine(sV hm (BU gr F true [] 0 rs) 8 50 (aa (take0 8 FP FP hz hr G5))).mono ?_;exact BI
 |false=>
   refine(sV hm (BU gr F false [] 0 rs) 1 0 (aa (takeN 8 FP FP hz hr G5))).mono ?_;rintro x w'⟨rfl,RR',hQ,hm⟩;exact bx.of (k:=1) (c2:=⟨.mark n t,[],0⟩) (o:=some .need) rfl rfl hm FP hz hp0 hQ ⟨rfl,rfl⟩
|cons y R=>
  have CT:=aa (take8 (gp:=gp) (w0:=w0) (ss:=ss) hz hr);obtain⟨c0,c1⟩:=hr.bd;have CS:=λw=>Vo n1 n2 ho y c0 c1 w;have hok:=MT.step_ok n1 n2 ho c0 c1;obtain⟨a,V,M,m,p,s,k,hv⟩:=MT.qK t;rw[hv]at CT hm hz;simp only[hv]at CS;cases ht:MT.step n y t with
 |go t2=>
   obtain⟨a2,V2,M2,m2,p2,s2,k2,hv2⟩:=MT.qK t2;rw[ht]at hok;simp only[ht,MR.val,hv2]at CS;refine(Y6 c0 c1 hm (BU gr F en R 0 rs) CT (aa CS) hz).mono ?_;rintro x w'⟨rfl,RR',hQ,hm⟩;exact bx.of (k:=1) (c2:=⟨.mark n t2,R,0⟩) (o:=none) JU rfl hm FP ⟨rfl,rfl,rfl,hz.ts,hz.cs,hz.ds,hz.er⟩ ⟨rfl,rfl,n1,n2,hok,rfl,hv2.symm⟩ hQ rfl
 |block m2 p2 s2=>
   rw[ht]at hok;simp only[ht]at CS;refine(YK 0 0 4 c0 c1 hm (BU gr F en R 0 rs) CT (aa CS) hz).mono ?_;rintro x w'⟨rfl,RR',hQ,hm⟩;exact bx.of (k:=2) (c2:=⟨.table n m2 p2 s2 bz,R,0⟩) (o:=some (.block m2 p2 s2)) JU rfl hm FP ⟨rfl,rfl,rfl,Ju,hz.cs,hz.ds,hz.er⟩ ⟨rfl,n1,n2,hok.1,hok.2.1,XK,rfl,rfl,rfl⟩ hQ ⟨rfl,rfl,rfl,rfl,rfl⟩
 |tail s2=>
   rw[ht]at hok;simp only[ht]at CS;refine(dJ 0 0 0 0 4 c0 c1 hm (BU gr F en R 0 rs) CT (aa CS) hz).mono ?_;rintro x w'⟨rfl,RR',hQ,hm⟩;exact bx.of (k:=5) (c2:=⟨.behind,R,0⟩) (o:=some (.tail s2)) JU rfl hm FP ⟨rfl,rfl,rfl,hz.ts,hz.cs,hz.ds,hz.er⟩ ⟨rfl,rfl⟩ hQ ⟨rfl,rfl,rfl⟩
 |bad=>
   simp only[ht]at CS;refine(mQ c0 c1 hm (BU gr F en R 0 rs) CT (aa CS) hz).mono ?_;rintro x w'⟨rfl,RR',hQ,hm⟩;exact bx.bad JU hm hz.five hQ
end
end
section
variable{c c2:Cf}{b:DS}{bit m n p q s:Int}{L T:ac}{i k:Nat}{t:TT}
section
variable{gp gr F:Nat}{en:Bool}{hs ms ts cs ds er:ai}{R:ac}{j:Nat}{rs RR:ae}{w0 w w':FC}{ss:O1}
def TT.ok.Ze(h:t.ok)(h0:0<=bit)(h1:bit<=1)(hk:(t.next bit).2=true):(t.next bit).1.l.length=258:=by
 rcases h.next h0 h1 hk with h|h
 .exact h.2.len
 .exact h.2.1
def zM(h1:1<=m)(h2:m<=65536):Vl (dNew m).l:=by
 rw[Oi FP FP];exact nl
def Xu(h:Vl b.l)(s:Int):Vl (FY b s).1.l:=by
 rw[FY];split
 .split
  .rw[G9];split
   .exact h
   .split
    .exact h
    .split
     .exact h
     .exact h.Ie _
  .exact h
 .exact h
def ZB(b:DS)(s:Int):(FY b s).2.1.length<=1000000:=by
 rw[FY];split
 .rename_i h;obtain⟨a1,a2,a3,a4,_⟩:=TL h.1;split
  .rw[G9];split
   .simp
   .split
    .simp[DS.rep];omega
    .split
     .simp
     .simp[DS.rep];omega
  .simp
 .simp
def a0h(hm:Own w0 w ((gp,PR (PT 3) hs ms ts cs ds er)::RR) ss)(hz:aq (PT 3) hs ms ts cs ds er)(hp:V4 ⟨.table n m p s t,R,j⟩ 2 hs ms ts cs ds er)(hr:BU gr F en R j rs RR):ak 82 #[gp,gr] w (bx gp gr F en rs w0 ss ⟨.table n m p s t,R,j⟩):=by
 have hp0:=hp;obtain⟨_,n1,n2,m1,m2,ho,rfl,rfl,rfl⟩:=hp;by_cases hj:j<8*R.length
 .have CT:=aa (take1 (gp:=gp) (w0:=w0) (ss:=ss) hz hr hj);obtain⟨c0,c1⟩:=KY R j;have CX:=λw=>SK (AP R j) ho c0 c1 w;by_cases h1:(t.next (AP R j)).2=true
  .simp only[h1,fP]at CX;have hlen:=ho.Ze c0 c1 h1;by_cases h2:(t.next (AP R j)).1.s=258
   .have hn:=ho.next c0 c1 h1
    have hn2:(t.next (AP R j)).1.l.length=258/\Bytes (t.next (AP R j)).1.l/\JL (t.next (AP R j)).1.l=true:=by
     rcases hn with h|h
     .omega
     .exact h.2
    have e:((t.next (AP R j)).1.s==258)=true:=by simp[h2]
    simp only[e]at CX;refine(XU (AP R j) 4 0 0 4 c0 c1 hm (BU gr F en R (j+1) rs) CT (aa CX) hz (Dy hlen) Di (CS (t.next (AP R j)).1.l 0 0) (V (dNew m)) (J .u8 (t.next (AP R j)).1.l) (Jv hlen) (by rw[Df];exact hlen) (CU hlen) Eb (FT (YS m)) ep (aa (λw=>Yh hn2.1 hn2.2.1 hn2.2.2 w)) (aa (λw=>Zx m w))).mono ?_;rintro x w'⟨rfl,RR',hQ,hm⟩;exact bx.of (k:=3) (c2:=⟨.syms n m p s (t.next (AP R j)).1.l 0 0 (dNew m),R,j+1⟩) (o:=none) Lr rfl hm FP ⟨rfl,rfl,rfl,Dy hlen,CU hlen,FT (YS m),hz.er⟩ ⟨rfl,n1,n2,Uk.zero hn2.1 hn2.2.1 hn2.2.2,zM m1 FP,rfl,rfl,rfl⟩ hQ rfl
   .have hn:(t.next (AP R j)).1.ok:=by
     rcases ho.next c0 c1 h1 with h|h
     .exact h.2
     .exact absurd h.1 h2
    have e:((t.next (AP R j)).1.s==258)=false:=by simp[h2]
    simp only[e]at CX;refine(kS (AP R j) c0 c1 hm (BU gr F en R (j+1) rs) CT (aa CX) hz (Dy hlen) Di).mono ?_;rintro x w'⟨rfl,RR',hQ,hm⟩;exact bx.of (k:=2) (c2:=⟨.table n m p s (t.next (AP R j)).1,R,j+1⟩) (o:=none) Lr rfl hm FP ⟨rfl,rfl,rfl,Dy hlen,hz.cs,hz.ds,hz.er⟩ ⟨rfl,n1,n2,m1,m2,hn,rfl,rfl,rfl⟩ hQ rfl
  .simp only[h1,jq,lU]at CX;refine(a0w (AP R j) c0 c1 hm (BU gr F en R (j+1) rs) CT (aa CX) hz Ju XJ).mono ?_;rintro x w'⟨rfl,RR',hQ,hm⟩;exact bx.bad (by simp[br,starved,AB,hj,Oj,h1]) hm hz.five hQ
 .cases en with
 |true=>
   refine(sU hm (BU gr F true R j rs) 8 50 (aa (take0 1 FP FP hz hr hj))).mono ?_;exact It
 |false=>
   refine(sU hm (BU gr F false R j rs) 1 0 (aa (takeN 1 FP FP hz hr hj))).mono ?_;rintro x w'⟨rfl,RR',hQ,hm⟩;exact bx.of (k:=2) (c2:=⟨.table n m p s t,R,j⟩) (o:=some .need) (by simp[br,starved,hj]) rfl hm FP hz hp0 hQ ⟨rfl,rfl⟩
def gE.slice{X:ae}{v:NY}{T:ac}(h:gE X v (vs .u8 T)):∃a c,v=.slice a T.length c:=by
 rcases h with⟨rfl,h,_⟩|⟨g,c,cells,_,rfl,_⟩
 .have:T=[]:=by simpa[vs]using h
  exact⟨none,0,by rw[this];rfl⟩
 .exact⟨_,c,by rw[Ai]⟩
def BU.more{X:ae}(hr:BU gr F en R j rs RR)(hm:Own w0 w ((gp,cs)::(X++RR)) ss):∃RR',BU gr F en R j rs RR'/\Own w0 w ((gp,cs)::RR') ss:=by
 obtain⟨Y,E,v,used,rfl,h⟩:=hr;refine⟨(gr,RD v ((j%8:Nat):Int) used en)::(Y++((X++E)++rs)),⟨Y,X++E,v,used,rfl,h⟩,hm.perm (jr _ ?_)⟩;have h1:(X++(gr,RD v ((j%8:Nat):Int) used en)::(Y++(E++rs))).Perm ((gr,RD v ((j%8:Nat):Int) used en)::(X++(Y++(E++rs)))):=jo;refine xA (jr _ ?_) h1.symm
 have h2:(X++(Y++(E++rs))).Perm (Y++(X++(E++rs))):=by
  rw[<-aI,<-aI Y];exact List.perm_append_comm.append_right _
 rw[aI];exact h2.symm
def bx.text{X:ae}{v:NY}(hX:gE X v (vs .u8 T))(hc:br en c=(if 0<T.length then some (.bytes T)else none,c2))(hm:Own w0 w' ((gp,PR (PT ((k:Nat)+1)) hs ms ts cs ds er)::(X++RR)) ss)(hk:k<8)(hz:aq (PT ((k:Nat)+1)) hs ms ts cs ds er)(hp:V4 c2 k hs ms ts cs ds er)(hr:BU gr F en c2.R c2.j rs RR):bx gp gr F en rs w0 ss c (.returned (.tuple #[.agg (aw 4 0 0 0 0 v 0),.bool (decide (0<T.length))])) w':=by
 have hv:v.oneCell'=true:=by obtain⟨a,c,rfl⟩:=hX.slice;rfl
 by_cases h:0<T.length
 .rw[aQ h]at hc;unfold bx;rw[hc,aW h];exact⟨4,0,0,0,0,v,0,X,_,rfl,hv,hm.perm (jo (l₁:=X)),⟨k,hs,ms,ts,cs,ds,er,RR,rfl,hk,hz,hp,hr⟩,rfl,h,hX⟩
 .rw[aP h]at hc;rw[aU h];obtain⟨RR2,hr2,hm2⟩:=hr.more hm;exact bx.of (o:=none) hc hv hm2 hk hz hp hr2 rfl
def Rr(hm:Own w0 w ((gp,PR (PT 4) hs ms ts cs ds er)::RR) ss)(hz:aq (PT 4) hs ms ts cs ds er)(hp:V4 ⟨.syms n m p s L q i b,R,j⟩ 3 hs ms ts cs ds er)(hr:BU gr F en R j rs RR):ak 84 #[gp,gr] w (bx gp gr F en rs w0 ss ⟨.syms n m p s L q i b,R,j⟩):=by
 have hp0:=hp;obtain⟨_,n1,n2,ho,hv,rfl,rfl,rfl⟩:=hp;by_cases hj:j<8*R.length
 .have CT:=aa (take1 (gp:=gp) (w0:=w0) (ss:=ss) hz hr hj);obtain⟨c0,c1⟩:=KY R j;have CF:=λw=>O' (AP R j) ho c0 c1 w;have ho2:=ho.next c0 c1;have hb2:Vl (FY b (aR L q i (AP R j)).2.2.1).1.l:=Xu hv _;by_cases h1:(aR L q i (AP R j)).2.2.2=true
  .simp only[h1]at CF;have CE:=λw=>VJ (aR L q i (AP R j)).2.2.1 w hv.len hv.bytes;have hT:=ZB b (aR L q i (AP R j)).2.2.1;have hc:br en ⟨.syms n m p s L q i b,R,j⟩=MQ n m p s L (aR L q i (AP R j)).1 (aR L q i (AP R j)).2.1 (FY b (aR L q i (AP R j)).2.2.1) R (j+1):=by simp[br,starved,AB,hj,eY,h1]
   generalize (aR L q i (AP R j)).2.2.1=sy at CF CE hc hT hb2;generalize FY b sy=d at CE hc hT hb2;obtain⟨d1,T,f,e⟩:=d;by_cases h2:e=0
   .subst h2;cases f with
   |false=>
     refine(Wv (AP R j) c0 c1 hm (BU gr F en R (j+1) rs) CT (aa CF) hz (CU ho.len) Eb hT (aa CE) (FT hb2.len) ep).mono ?_;rintro x w'⟨v,X,RR',rfl,hX,hQ,hm⟩;exact bx.text (k:=3) (c2:=⟨.syms n m p s L (aR L q i (AP R j)).1 (aR L q i (AP R j)).2.1 d1,R,j+1⟩) hX (by rw[hc];simp[MQ]) hm FP ⟨rfl,rfl,hz.ms,hz.ts,CU ho.len,FT hb2.len,hz.er⟩ ⟨rfl,n1,n2,ho2,hb2,rfl,rfl,rfl⟩ hQ
   |true=>
     refine(a0f (AP R j) c0 c1 hm (BU gr F en R (j+1) rs) CT (aa CF) hz (CU ho.len) Eb hT (aa CE) (FT hb2.len) ep).mono ?_;rintro x w'⟨v,X,RR',rfl,hX,hQ,hm⟩;exact bx.text (k:=4) (c2:=⟨.pad n m p s,R,j+1⟩) hX (by rw[hc];simp[MQ]) hm FP ⟨rfl,rfl,hz.ms,hz.ts,CU ho.len,FT hb2.len,hz.er⟩ ⟨rfl,n1,n2,rfl⟩ hQ
   .refine(a0W (AP R j) c0 c1 hm (BU gr F en R (j+1) rs) CT (aa CF) hz (CU ho.len) Eb hT (aa CE) (FT hb2.len) ep h2).mono ?_;rintro x w'⟨rfl,X,RR',hQ,hm⟩;obtain⟨RR2,hQ2,hm2⟩:=hQ.more hm;exact bx.bad (by rw[hc];simp[MQ,h2]) hm2 ⟨rfl,hz.ms,hz.ts,CU ho.len,hz.ds⟩ hQ2 h2
  .simp only[h1]at CF;refine(Wx (AP R j) c0 c1 hm (BU gr F en R (j+1) rs) CT (aa CF) hz (CU ho.len) Eb).mono ?_;rintro x w'⟨rfl,RR',hQ,hm⟩;exact bx.of (k:=3) (c2:=⟨.syms n m p s L (aR L q i (AP R j)).1 (aR L q i (AP R j)).2.1 b,R,j+1⟩) (o:=none) (by simp[br,starved,AB,hj,eY,h1]) rfl hm FP ⟨rfl,rfl,hz.ms,hz.ts,CU ho.len,hz.ds,hz.er⟩ ⟨rfl,n1,n2,ho2,hv,rfl,rfl,rfl⟩ hQ rfl
 .cases en with
 |true=>
   refine(sS hm (BU gr F true R j rs) 8 50 (aa (take0 1 FP FP hz hr hj))).mono ?_;exact It
 |false=>
   refine(sS hm (BU gr F false R j rs) 1 0 (aa (takeN 1 FP FP hz hr hj))).mono ?_;rintro x w'⟨rfl,RR',hQ,hm⟩;exact bx.of (k:=3) (c2:=⟨.syms n m p s L q i b,R,j⟩) (o:=some .need) (by simp[br,starved,hj]) rfl hm FP hz hp0 hQ ⟨rfl,rfl⟩
end
end
def bU(R:ac)(j:Nat):Int:=if j%8=0 then 0 else gi R (j/8)%2^(8-j%8)
def sZ(j:Nat):Int:=if j%8=0 then 0 else((8-j%8:Nat):Int)
def XM(R:ac)(j:Nat):zpad R j=true↔bU R j=0:=by
 rw[zpad,bU,zE];by_cases h:j%8=0
 .have:8*((j+7)/8)-j=0:=FP
  simp[h,this]
 .rw[aP h];have hn:8*((j+7)/8)-j=8-j%8:=FP
  rw[hn]
  have hb:∀i,i<8-j%8->AP R (j+i)=gi R (j/8)/2^(7-(j%8+i))%2:=by
   intro i hi;have h1:(j+i)/8=j/8:=FP
   have h2:(j+i)%8=j%8+i:=FP
   rw[AP,h1,h2]
  have e:(∀x∈List.range (8-j%8),(decide (AP R (j+x)=0))=true)↔∀i,i<8-j%8->gi R (j/8)/2^(7-(j%8+i))%2=0:=by
   constructor
   .intro H i hi;rw[<-hb i hi];exact eF (H i (dS.2 hi))
   .intro H i hi;have hi:=dS.1 hi;rw[hb i hi];exact aW (H i hi)
  rw[e];generalize gi R (j/8)=x;have hc:j%8=1\/j%8=2\/j%8=3\/j%8=4\/j%8=5\/j%8=6\/j%8=7:=FP
  rcases hc with hc|hc|hc|hc|hc|hc|hc<;>rw[hc]<;>constructor
  .intro H;have h0:=H 0 FU;have h1:=H 1 FU;have h2:=H 2 FU;have h3:=H 3 FU;have h4:=H 4 FU;have h5:=H 5 FU;have h6:=H 6 FU;exact mq
  .intro H i hi;have hi2:i=0\/i=1\/i=2\/i=3\/i=4\/i=5\/i=6:=FP
   rcases hi2 with rfl|rfl|rfl|rfl|rfl|rfl|rfl<;>simp only[Nat.reduceAdd,Nat.reduceSub,Int.reducePow]at*<;>omega
  .intro H;have h0:=H 0 FU;have h1:=H 1 FU;have h2:=H 2 FU;have h3:=H 3 FU;have h4:=H 4 FU;have h5:=H 5 FU;exact mq
  .intro H i hi;have hi2:i=0\/i=1\/i=2\/i=3\/i=4\/i=5:=FP
   rcases hi2 with rfl|rfl|rfl|rfl|rfl|rfl<;>simp only[Nat.reduceAdd,Nat.reduceSub,Int.reducePow]at*<;>omega
  .intro H;have h0:=H 0 FU;have h1:=H 1 FU;have h2:=H 2 FU;have h3:=H 3 FU;have h4:=H 4 FU;exact mq
  .intro H i hi;have hi2:i=0\/i=1\/i=2\/i=3\/i=4:=FP
   rcases hi2 with rfl|rfl|rfl|rfl|rfl<;>simp only[Nat.reduceAdd,Nat.reduceSub,Int.reducePow]at*<;>omega
  .intro H;have h0:=H 0 FU;have h1:=H 1 FU;have h2:=H 2 FU;have h3:=H 3 FU;exact mq
  .intro H i hi;have hi2:i=0\/i=1\/i=2\/i=3:=FP
   rcases hi2 with rfl|rfl|rfl|rfl<;>simp only[Nat.reduceAdd,Nat.reduceSub,Int.reducePow]at*<;>omega
  .intro H;have h0:=H 0 FU;have h1:=H 1 FU;have h2:=H 2 FU;exact mq
  .intro H i hi;have hi2:i=0\/i=1\/i=2:=FP
   rcases hi2 with rfl|rfl|rfl<;>simp only[Nat.reduceAdd,Nat.reduceSub,Int.reducePow]at*<;>omega
  .intro H;have h0:=H 0 FU;have h1:=H 1 FU;exact mq
  .intro H i hi;have hi2:i=0\/i=1:=FP
   rcases hi2 with rfl|rfl<;>simp only[Nat.reduceAdd,Nat.reduceSub,Int.reducePow]at*<;>omega
  .intro H;have h0:=H 0 FU;exact mq
  .intro H i hi;have hi2:i=0:=FP
   subst hi2;exact mq
def V5(R:ac)(j:Nat)(h3:j/8<R.length):pk (R.drop (j/8)) (j%8) (8-j%8)=gi R (j/8)%2^(8-j%8):=by
 have h1:(j%8+(8-j%8)+7)/8=1:=FP
 have h2:1*8-j%8-(8-j%8)=0:=FP
 rw[pk,h1,h2]
 exact Bt
section
variable{gp gr F:Nat}{en:Bool}{pt hs ms ts cs ds er:ai}{R:ac}{j:Nat}{rs RR:ae}{w0 w w':FC}{ss:O1}
def Wi:∀W g RR,BU gr F en R j rs RR->Own w0 W (g::(gp,PR pt hs ms ts cs ds er)::RR) ss->ak 131 #[gr] W λx w'=>(x=.returned (.tuple #[.int .u32 (bU R j),.int .i64 (sZ j)]))/\∃RR',BU gr F en (R.drop ((j+7)/8)) 0 rs RR'/\Own w0 w' (g::(gp,PR pt hs ms ts cs ds er)::RR') ss:=by
 rintro W g RR⟨X,E,v,used,rfl,ht,hB,hl,hj,hu0,hu⟩hm;have hB2:∀k,Bytes (R.drop k):=λk x hx=>hB x (iw hx);by_cases h:j%8=0
 .rw[h]at hm;refine(o8 hm.bM ht (hB2 _) G8 hu0 FP).mono ?_;rintro x w'⟨rfl,hm2⟩;rw[bU,sZ,aQ h,aQ h];have e:(j+7)/8=j/8:=FP
  rw[e];exact⟨rfl,_,⟨X,E,v,used,rfl,ht,hB2 _,by simp;omega,FP,hu0,by simp;omega⟩,hm2.Nh⟩
 .refine(o7 (j%8) hm.bM ht (hB2 _) G8 FP hu0 FP FP G8).mono ?_;rintro x w'⟨rfl,v2,ht2,hm2⟩;rw[bU,sZ,aP h,aP h,V5 R j FP];have e:(j+7)/8=j/8+1:=FP
  rw[xR]at ht2;rw[e];exact⟨rfl,_,⟨X,E,v2,used+(8-j%8:Nat),rfl,ht2,hB2 _,by simp;omega,FP,FP,by simp;omega⟩,hm2.Nh⟩
def YT:∀W g RR,BU gr F en R 0 rs RR->Own w0 W (g::(gp,PR pt hs ms ts cs ds er)::RR) ss->ak 132 #[gr] W λx w'=>(x=.returned (.int .i64 ((R.length:Int)*8-0)))/\∃RR',BU gr F en R 0 rs RR'/\Own w0 w' (g::(gp,PR pt hs ms ts cs ds er)::RR') ss:=by
 rintro W g RR⟨X,E,v,used,rfl,ht,hB,hl,hj,hu0,hu⟩hm;obtain⟨ad,c,rfl⟩:=ht.shape;refine(fH R.length 0 hm.bM FP FP FP).mono ?_;exact Kh
def nO:∀W g RR,BU gr F en R j rs RR->Own w0 W (g::(gp,PR pt hs ms ts cs ds er)::RR) ss->ak 133 #[gr] W λx w'=>(x=.returned (.bool en))/\∃RR',BU gr F en R j rs RR'/\Own w0 w' (g::(gp,PR pt hs ms ts cs ds er)::RR') ss:=by
 rintro W g RR⟨X,E,v,used,rfl,ht,hB,hl,hj,hu0,hu⟩hm;refine(jS _ hm.bM).mono ?_;exact Kh
def A2x{n m p s:Int}(hm:Own w0 w ((gp,PR (PT 5) hs ms ts cs ds er)::RR) ss)(hz:aq (PT 5) hs ms ts cs ds er)(hp:V4 ⟨.pad n m p s,R,j⟩ 4 hs ms ts cs ds er)(hr:BU gr F en R j rs RR):ak 86 #[gp,gr] w (bx gp gr F en rs w0 ss ⟨.pad n m p s,R,j⟩):=by
 obtain⟨_,n1,n2,rfl⟩:=hp;by_cases h:bU R j=0
 .have hZ:=(XM R j).2 h;have CA:=Wi (F:=F) (en:=en) (R:=R) (j:=j) (rs:=rs) (gr:=gr) (w0:=w0) (ss:=ss) (gp:=gp) (pt:=PT 5) (hs:=HS 4 0 0 n) (ms:=ms) (ts:=ts) (cs:=cs) (ds:=ds) (er:=er);rw[h]at CA;refine(bV (sZ j) hm (BU gr F en R j rs) (BU gr F en (R.drop ((j+7)/8)) 0 rs) hr (aa CA) hz).mono ?_;rintro x w'⟨rfl,RR',hQ,hm⟩;exact bx.of (k:=1) (c2:=⟨.mark n .mark,R.drop ((j+7)/8),0⟩) (o:=some (.U5 m p s)) (by simp[br,starved,AB,hZ]) rfl hm FP ⟨rfl,rfl,rfl,hz.ts,hz.cs,hz.ds,hz.er⟩ ⟨rfl,rfl,n1,n2,trivial,rfl,rfl⟩ hQ ⟨rfl,rfl⟩
 .have hZ:¬zpad R j=true:=λe=>h ((XM R j).1 e);refine(Yj (sZ j) (bU R j) hm (BU gr F en R j rs) (BU gr F en (R.drop ((j+7)/8)) 0 rs) hr h (aa Wi) hz).mono ?_;rintro x w'⟨rfl,RR',hQ,hm⟩;exact bx.bad (by simp[br,starved,AB,hZ]) hm hz.five hQ
def nU(hm:Own w0 w ((gp,PR (PT 6) hs ms ts cs ds er)::RR) ss)(hz:aq (PT 6) hs ms ts cs ds er)(hp:V4 ⟨.behind,R,j⟩ 5 hs ms ts cs ds er)(hr:BU gr F en R j rs RR):ak 88 #[gp,gr] w (bx gp gr F en rs w0 ss ⟨.behind,R,j⟩):=by
 obtain⟨_,hj⟩:=hp;obtain rfl:j=0:=hj;by_cases h:0<R.length
 .refine(bJ ((R.length:Int)*8-0) hm (BU gr F en R 0 rs) (BU gr F en R 0 rs) hr FP (aa YT) hz).mono ?_;rintro x w'⟨rfl,RR',hQ,hm⟩;exact bx.bad (by simp only[br,AB,aQ h,starved,List.isEmpty_eq_false_iff.2 (List.ne_nil_of_length_pos h)];simp) hm hz.five hQ
 .cases en with
 |true=>
   refine(a0i ((R.length:Int)*8-0) hm (BU gr F true R 0 rs) (BU gr F true R 0 rs) hr FP (aa YT) (aa nO) hz).mono ?_;rintro x w'⟨rfl,RR',hQ,hm⟩;exact bx.of (k:=6) (c2:=⟨.over,R,0⟩) (o:=some .fin) (by simp only[br,AB,aP h];rfl) rfl hm FP ⟨rfl,hz.hs,hz.ms,hz.ts,hz.cs,hz.ds,hz.er⟩ rfl hQ ⟨rfl,rfl⟩
 |false=>
   have hR:R=[]:=l9.1 FP;refine(Yi ((R.length:Int)*8-0) hm (BU gr F false R 0 rs) (BU gr F false R 0 rs) hr FP (aa YT) (aa nO) hz).mono ?_;rintro x w'⟨rfl,RR',hQ,hm⟩;exact bx.of (k:=5) (c2:=⟨.behind,R,0⟩) (o:=some .need) (by rw[hR];rfl) rfl hm FP hz ⟨rfl,rfl⟩ hQ ⟨rfl,rfl⟩
def XF(hm:Own w0 w ((gp,PR (PT 7) hs ms ts cs ds er)::RR) ss)(hz:aq (PT 7) hs ms ts cs ds er)(hr:BU gr F en R j rs RR):ak 90 #[gp,gr] w (bx gp gr F en rs w0 ss ⟨.over,R,j⟩):=by
 refine(wL hm).mono ?_;rintro x w'⟨rfl,hm⟩;exact bx.of (k:=6) (c2:=⟨.over,R,j⟩) (o:=some .fin) (by simp[br,starved,AB]) rfl hm FP hz rfl hr ⟨rfl,rfl⟩
def Tq{e:Int}(hm:Own w0 w ((gp,PR (PT 8) hs ms ts cs ds er)::RR) ss)(hz:aq (PT 8) hs ms ts cs ds er)(hp:V4 ⟨.bad e,R,j⟩ 7 hs ms ts cs ds er)(hr:BU gr F en R j rs RR):ak 92 #[gp,gr] w (bx gp gr F en rs w0 ss ⟨.bad e,R,j⟩):=by
 obtain⟨_,rfl,h0⟩:=hp;refine(nI hm hz).mono ?_;rintro x w'⟨rfl,hm⟩;exact bx.bad (by simp[br,starved,AB]) hm hz.five hr h0
def Xk{c:Cf}{k:Nat}(hk:k<8)(hm:Own w0 w ((gp,PR (PT ((k:Nat)+1)) hs ms ts cs ds er)::RR) ss)(hz:aq (PT ((k:Nat)+1)) hs ms ts cs ds er)(hp:V4 c k hs ms ts cs ds er)(hr:BU gr F en c.R c.j rs RR):ak (78+2*k) #[gp,gr] w (bx gp gr F en rs w0 ss c):=by
 obtain⟨s,R,j⟩:=c;cases s with
|head t=>obtain rfl:k=0:=hp.1;exact A0F hm hz hp hr
|mark n t=>obtain rfl:k=1:=hp.1;exact Q3 hm hz hp hr
|table n m p s t=>obtain rfl:k=2:=hp.1;exact a0h hm hz hp hr
|syms n m p s L q i b=>obtain rfl:k=3:=hp.1;exact Rr hm hz hp hr
|pad n m p s=>obtain rfl:k=4:=hp.1;exact A2x hm hz hp hr
|behind=>obtain rfl:k=5:=hp.1;exact nU hm hz hp hr
|over=>obtain rfl:k=6:=hp;exact XF hm hz hr
|bad e=>obtain rfl:k=7:=hp.1;exact Tq hm hz hp hr
end
section
variable{cs cs' ds ds' er' hs hs' ms ms' ts':ai}{c:Cf}{a b:Int}{f p:O9}{R RR:ae}
def YA{ts er:ai}(h:PR (PT a) hs ms ts cs ds er=PR (PT b) hs' ms' ts' cs' ds' er'):a=b:=by
 have h2:(PR (PT a) hs ms ts cs ds er)[0]?=(PR (PT b) hs' ms' ts' cs' ds' er')[0]?:=by rw[h]
 simpa[PR,PT]using h2
section
variable{gp gr F:Nat}{en:Bool}{rs:ae}{w0 w w':FC}{ss:O1}
def BU.TP{R:ac}{j:Nat}(hr:BU gr F en R j rs RR)(hm:Own w0 w (f::p::RR) ss):∃RR2,BU gr F en R j (f::rs) RR2/\Own w0 w (p::RR2) ss:=by
 obtain⟨X,E,v,used,rfl,h⟩:=hr;rw[<-aI]at hm;have hm:=hm.jA;rw[aI]at hm;exact⟨_,⟨X,E,v,used,rfl,h⟩,hm⟩
def Rel.Sk{X:ae}(hr:Rel gp gr F en (f::rs) c R)(hm:Own w0 w (X++R) ss):∃R2,Rel gp gr F en rs c R2/\Own w0 w (f::(X++R2)) ss:=by
 obtain⟨k,hs,ms,ts,cs,ds,er,RR,rfl,hk,hz,hp,Y,E,v,used,rfl,h⟩:=hr;refine⟨_,⟨k,hs,ms,ts,cs,ds,er,_,rfl,hk,hz,hp,Y,E,v,used,rfl,h⟩,hm.perm ?_⟩;have e:∀(A B:ae)(g:O9),(A++(g::B)).Perm (g::(A++B)):=λA B g=>jo;have:=e (X++((gp,PR (PT (k+1)) hs ms ts cs ds er)::(gr,RD v ((c.j%8:Nat):Int) used en)::(Y++E))) rs f;simpa using this.symm
def a1M(hR:Rel gp gr F en rs c R)(hm:Own w0 w R ss):ak 38 #[gp,gr] w λx w'=>∃kd n m p s v e ev c2 X R',x=.returned (.agg (aw kd n m p s v e))/\v.oneCell'=true/\cJ en c ev c2/\yR X ev kd n m p s v e/\Rel gp gr F en rs c2 R'/\Own w0 w' (X++R') ss:=by
 have hR0:=hR;obtain⟨k,hs,ms,ts,cs,ds,er,RR,rfl,hk,hz,hp,hr⟩:=hR;refine(zG hm (λn R=>∃c',(∀ev c2,cJ en c' ev c2->cJ en c ev c2)/\n=c'.mu/\Rel gp gr F en rs c' R) c.mu ⟨c,λ_ _ h=>h,rfl,hR0⟩ ?_ (λkd n m p s v e R'=>∃ev c2 X R2,R'=X++R2/\v.oneCell'=true/\cJ en c ev c2/\yR X ev kd n m p s v e/\Rel gp gr F en rs c2 R2) (aa ?_)).mono ?_
 .rintro n R⟨c',_,_,k,hs,ms,ts,cs,ds,er,RR,rfl,hk,hz,_⟩;exact⟨k,hs,ms,ts,cs,ds,er,RR,rfl,hk,hz⟩
 .rintro n k hs ms ts cs ds er RR2 W f ss' hk⟨c',hN,rfl,k',hs',ms',ts',cs',ds',er',RR',hR,hk',hz',hp',hr'⟩hm;rw[hR]at hm;injection hR with h1 h2;injection h1 with _ h1;have hkk:=YA h1;obtain rfl:k=k':=FP
  clear h1 h2 hkk;obtain⟨RR3,hr3,hm3⟩:=hr'.TP hm;refine(Xk hk hm3 hz' hp' hr3).mono ?_;rintro x w'⟨kd,n,m,p,s,v,e,X,R,rfl,hv,hm4,hR4,hE⟩;obtain⟨R2,hR5,hm5⟩:=hR4.Sk hm4;refine⟨kd,n,m,p,s,v,e,_,X++R2,rfl,hv,hm5,?_,?_⟩
  .intro ht;obtain⟨ev,he⟩:=qU.1 ht;rw[he]at hE;exact⟨ev,(br en c').2,X,R2,rfl,hv,hN _ _ (cJ.now (by rw[<-he])),hE,hR5⟩
  .intro ht;have he:(br en c').1=none:=by simpa using ht
   rw[he]at hE;obtain rfl:X=[]:=hE;exact⟨_,uc c' (by rw[he];rfl),(br en c').2,λev c2 h=>hN _ _ (cJ.later he h),rfl,hR5⟩
 .rintro x w'⟨kd,n,m,p,s,v,e,R',rfl,⟨ev,c2,X,R2,rfl,h0,h1,h2,h3⟩,hm⟩;exact⟨kd,n,m,p,s,v,e,ev,c2,X,R2,rfl,h0,h1,h2,h3,hm⟩
def Rel.split(hr:Rel gp gr F en rs c R):∃P,R=P++rs/\∀rs',Rel gp gr F en rs' c (P++rs'):=by
 obtain⟨k,hs,ms,ts,cs,ds,er,RR,rfl,hk,hz,hp,X,E,v,used,rfl,h⟩:=hr;refine⟨(gp,PR (PT (k+1)) hs ms ts cs ds er)::(gr,RD v ((c.j%8:Nat):Int) used en)::(X++E),G5,λrs'=>⟨k,hs,ms,ts,cs,ds,er,_,rfl,hk,hz,hp,X,E,v,used,G5,h⟩⟩
def Rel.start{v:NY}:Rel gp gr 0 false rs ⟨.head ⟨0,0,0⟩,[],0⟩ ((gp,pD)::(gr,RD (.slice none 0 0) 0 0 false)::rs):=
 ⟨0,_,_,_,_,_,_,_,rfl,FP,a0n,⟨rfl,rfl,.inl ⟨FU,FU,rfl,rfl⟩,rfl,rfl⟩,[],[],_,0,rfl,.inl ⟨rfl,rfl,rfl⟩,(λx h=>G6),G5,dD _,FP,G5⟩
end
end
section
variable{bud md used:Int}{mm:ac}{ss:O1}{ga gd gq gr:Nat}{a b c:O9}{o:Oz}{u x y z:O7}{rs:ae}{bv pa pp sv:NY}{w w0:FC}
@[reducible] def DRw (bud md:Int) (pa pr pp sv:NY) (m p q came:Int) (bv:NY) (st told all e:Int):ai:=#[.int .i64 bud,.int .u8 md,pa,pr,pp,sv,.int .i64 m,.int .i64 p,.int .u32 q,.int .i64 came,bv,.int .i64 st,.int .i64 told,.int .u32 all,.int .i64 e]
def XH{a:OA}(ho:o.op=.build 106 #[(0,x),(2,y),(3,z),(4,u)]){b:Int}{gp:Nat}(hx:a.eval x=.int .i64 b)(hy:a.eval y=.pointer ga)(hz:a.eval z=.pointer gr)(hu:a.eval u=.pointer gp):(execOp a.eval o).run prog w=.ok (.value (.agg (DRw b 0 (.pointer ga) (.pointer gr) (.pointer gp) (.slice none 0 0) 0 0 0 0 .nilIface 0 0 0 0))) w:=
 Dq ho (by simp only[cM,bT,bZ,hx,hy,hz,hu];kernel_rfl)
def a0x{b:Nat}(rs:ae)(hm:Own w0 w rs ss)(h1:1<=b)(h2:b<=1048576):ak 17 #[.int .i64 b] w λx w'=>∃gd ga gx gr gp,x=.returned (.tuple #[.pointer (some ⟨gd,0,none⟩),.int .i64 0])/\Own w0 w' ((gd,DRw b 0 (.pointer (some ⟨ga,0,none⟩)) (.pointer (some ⟨gr,0,none⟩)) (.pointer (some ⟨gp,0,none⟩)) (.slice none 0 0) 0 0 0 0 .nilIface 0 0 0 0)::(gp,pD)::(gr,RD (.slice none 0 0) 0 0 false)::(ga,AR (.slice (some ⟨gx,0,none⟩) b b) 0 0)::(gx,B (List.replicate b 0))::rs) ss:=by
 go_enter func17,ntmps17
 go_wp2_with(first
 |(go_at_call 22;have _t:=hm;refine(Of hm h1 h2).mono ?_;clear _t hm;rintro e w1⟨ga,gx,rfl,hm⟩)
 |(go_at_call 34;have _t:=hm;refine(Qt hm).mono ?_;clear _t hm;rintro e w1⟨gr,rfl,hm⟩)
 |(go_at_call 35;have _t:=hm;refine(a0o hm).mono ?_;clear _t hm;rintro e w1⟨gp,rfl,hm⟩)
 |with_reducible refine cS (t:=106) ?_;(refine A8 rfl (XH rfl rfl rfl rfl) ?_)
 |with_reducible refine wb hm ?_;clear hm;intro w gd hm)
 go_ret2
 exact⟨gd,ga,gx,gr,gp,rfl,hm⟩
def a0r(m p q came:Int)(st told all e:Int)(rs:ae){v:NY}(bit:Int)(hm:Own w0 w ((gd,DRw bud md pa (.pointer gr) pp sv m p q came bv st told all e)::(gr,RD v bit used false)::rs) ss):ak 21 #[gd] w (RO (.bool true) w0 ((gd,DRw bud md pa (.pointer gr) pp sv m p q came bv st told all e)::(gr,RD v bit used true)::rs) ss):=by
 go_enter func21,ntmps21
 go_wp2_with(first
 |go_at_call 37;refine MP (a0O (hm.perm (fM _ _ _))) ?_;clear hm;intro w1 hm;replace hm:=hm.perm (fM _ _ _)
 |refine UV ?_;try(clear hm;intro w gp hm))
 exact gR
def Fd{X:ae}:(a::b::(X++(c::rs))).Perm (b::c::(X++(a::rs))):=by
 have e:∀(A B:ae)(g:O9),(A++(g::B)).Perm (g::(A++B)):=λA B g=>jo;refine(fM b a _).trans (jr _ ?_);exact(jr _ (e X rs c)).trans ((fM c a _).trans (jr _ (e X rs a).symm))
def Own.fq{X:ae}(h:Own w0 w (a::b::(X++(c::rs))) ss):Own w0 w (b::c::(X++(a::rs))) ss:=h.perm Fd.symm
def Own.Wt{X:ae}(h:Own w0 w (b::c::(X++(a::rs))) ss):Own w0 w (a::b::(X++(c::rs))) ss:=h.perm Fd
def Uy(m p q came:Int)(st told all e:Int)(rs:ae){v:NY}(bit:Int){u:NY}{X:ae}(l:ac)(hm:Own w0 w ((gd,DRw bud md pa (.pointer gr) pp sv m p q came bv st told all e)::(gr,RD v bit used false)::(X++((gq,#[u])::rs))) ss)(ht:Tail X v l)(hu:∀W rr,Own w0 W rr ss->Src W u (vs .u8 mm))(hl:l.length+mm.length<=100000000):ak 18 #[gd,.slice gq 1 1] w λx w'=>x=.returned (.bool true)/\∃X2 v2,Tail X2 v2 (l++mm)/\Own w0 w' ((gd,DRw bud md pa (.pointer gr) pp sv m p q came bv st told all e)::(gr,RD v2 bit used false)::(X2++((gq,#[u])::rs))) ss:=by
 have HT:=aa ht;have HU:=aa hu;clear ht hu;go_enter func18,ntmps18
 go_wp2_with(first
 |(go_at_call 36;have _t:=hm;refine(A2D mm hm.fq HT.o (λW h=>HU.o W _ h) hl).mono ?_;clear _t hm;rintro e2 w1⟨rfl,X2,v2,ht2,hm⟩;replace hm:=hm.Wt)
 |refine UV ?_;try(clear hm;intro w gp hm))
 go_ret;exact⟨rfl,X2,v2,ht2,hm⟩
end
section
variable{cs cs2:ai}{b bud md:Int}{l:ac}{ss:O1}{fn fr fs ft fv g gd gw t:Nat}{rs:ae}{pa pp pr sv u:NY}{w w0:FC}
def j8.one(h:Own w0 w ((g,#[u])::rs) ss)(hu:In .u8 w u l):j8 w (.slice g 1 1) [l]:=by
 refine⟨_,_,rfl,λi hi=>?_⟩;simp only[bD,bW]at hi;obtain rfl:i=0:=FP
 exact⟨_,u,rfl,by rw[fQ];exact(h.row 0 rfl).cell 0,hu⟩
def uW{g1 g2:Nat}(h:Own w0 w ((g2,#[.slice g1 1 1])::(g1,#[.int .u8 b])::rs) ss):j8 w (.slice g2 1 1) [[b]]:=
 j8.one h ⟨_,_,rfl,λi hi=>by
  simp only[bD,bW]at hi;obtain rfl:i=0:=FP
  exact⟨_,rfl,by rw[fQ];exact(h.row 1 rfl).cell 0⟩⟩
def kx(t fv fn fr fs ft:Nat):Prop:=(t=54/\fv=28/\fn=30/\fr=311/\fs=312/\ft=313)\/(t=57/\fv=29/\fn=31/\fr=314/\fs=315/\ft=316)
def A6v(m p q came:Int)(st told all e:Int)(hm:Own w0 w ((gd,DRw bud md pa pr pp sv m p q came (.nilIface) st told all e)::rs) ss):ak 63 #[gd] w (RW w (.tuple #[.int .u8 0,.bool false])):=by
 go_enter func63,ntmps63
 go_wp2_with(refine UV ?_;try(clear hm;intro w gp hm))
 all_goals(go_ret2;exact⟨rfl,rfl⟩)
def fy(hk:kx t fv fn fr fs ft):∀(gw:Nat)(W:FC),(method 488 t (.pointer (some ⟨gw,0,none⟩)) "Next").run prog W=.ok (fn,.pointer (some ⟨gw,0,none⟩)) W/\(method 488 t (.pointer (some ⟨gw,0,none⟩)) "Told").run prog W=.ok (ft,.pointer (some ⟨gw,0,none⟩)) W/\(method 488 t (.pointer (some ⟨gw,0,none⟩)) "Steps").run prog W=.ok (fs,.pointer (some ⟨gw,0,none⟩)) W/\(method 488 t (.pointer (some ⟨gw,0,none⟩)) "Valid").run prog W=.ok (fv,.pointer (some ⟨gw,0,none⟩)) W/\(method 488 t (.pointer (some ⟨gw,0,none⟩)) "Reset").run prog W=.ok (fr,.pointer (some ⟨gw,0,none⟩)) W:=λgw W=>by
 rcases hk with⟨rfl,rfl,rfl,rfl,rfl,rfl⟩|⟨rfl,rfl,rfl,rfl,rfl,rfl⟩
 .exact Pt
 .exact Pt
def WX(hk:kx t fv fn fr fs ft)(b k ws:Int)(m p q came:Int)(st told all e:Int)(hm:Own w0 w ((gd,DRw bud md pa pr pp sv m p q came (.iface t (.pointer gw)) st told all e)::(gw,cs)::rs) ss)(CN:Hid (∀W f,Own w0 W (f::(gw,cs)::rs) ss->ak fn #[gw] W (RO (.tuple #[.int .u8 b,.bool true]) w0 (f::(gw,cs2)::rs) ss)))(CT:Hid (∀W f,Own w0 W (f::(gw,cs2)::rs) ss->ak ft #[gw] W (RW W (.int .i64 k))))(CS:Hid (∀W f,Own w0 W (f::(gw,cs2)::rs) ss->ak fs #[gw] W (RW W (.int .i64 ws))))(t0:0<=told)(t1:told<=1000000000000)(s0:0<=st)(s1:st<=1000000000000000000)(x0:0<=ws)(x1:ws<=1000000000000000000):ak 63 #[gd] w (RO (.tuple #[.int .u8 b,.bool true]) w0 ((gd,DRw bud md pa pr pp sv m p q came (if k=m then .nilIface else .iface t (.pointer gw)) (if k=m then st+ws else st) (told+1) (crc all [[b]]) e)::(gw,cs2)::rs) ss):=by
 have w1:IntKind.i64.wrap (told+1)=told+1:=av;have w2:IntKind.i64.wrap (st+ws)=st+ws:=av;obtain⟨i1,hE1⟩:=i8;have HE1:=aa hE1;obtain⟨i2,hE2⟩:=wO;have HE2:=aa hE2;clear hE1 hE2;have h_N:=λW=>(fy hk gw W).1;have h_T:=λW=>(fy hk gw W).2.1;have h_S:=λW=>(fy hk gw W).2.2.1;rcases hk with⟨rfl,rfl,rfl,rfl,rfl,rfl⟩|⟨rfl,rfl,rfl,rfl,rfl,rfl⟩
 all_goals
  go_enter func63,ntmps63
  go_upto_region 7 with(first
   |((first|go_at_call 30|go_at_call 31);refine MP (CN.o _ _ hm) ?_;clear hm;intro w1 hm)
   |(go_at_call 107;have _t:=hm;refine(nV all [[b]] (uW hm) G5 G5).mono ?_;rintro e1 w1⟨rfl,hb⟩;replace hm:=(hm.call hb).dropRow.dropRow;clear hb _t)
   |(with_reducible first|refine wl 3 0 hm ?_|refine wl 72 0 hm ?_|refine wl 104 0 hm ?_|refine wc 3 0 hm ?_;clear hm;intro w hm|refine wc 72 0 hm ?_;clear hm;intro w hm)
   |refine Ad rfl (JQ hm rfl HE1.o (Ac rfl) rfl ?_);clear hm;intro w g1 hm
   |refine Ad rfl (JQ hm rfl HE2.o (Ac rfl) rfl ?_);clear hm;intro w g2 hm)
  refine rO hm 11 (.am [(0,false),(1,false),(2,false),(3,true),(5,false),(6,false),(7,false),(8,false),(9,true)] (.one 4 (.am [(10,false)] .done))) ?_;clear hm;intro w hm;simp only[KT.am]
  iterate 3 refine kq ?_
  refine km (λW hm=>ld 0 hm rfl rfl rfl (ot rfl) rfl) ?_
  iterate 4 refine kq ?_
  refine km (λW hm=>ld 0 hm rfl rfl rfl (ot rfl) rfl) ?_;refine DJ rfl rfl (λK hK=>?_);go_simp;refine MW (CT.o _ _ hm) ?_;refine hK _ _ ⟨λW=>Own _ W _ _,λ_ h=>h,hm,?_⟩;clear hK K;refine kq ?_;refine Ba ?_;go_simp;by_cases hkm:k=m
  .subst hkm;have q1:(k==k)=true:=G5
   go_upto_region 8 with fail
   refine rO hm 12 (.am [(0,false),(1,false),(2,false),(3,true),(4,false),(5,false),(6,false),(7,true)] (.one 8 (.am [(9,false),(10,false),(11,false)] (.brk 12 13 .done)))) ?_;clear hm;intro w hm;simp only[KT.am]
   iterate 3 refine kq ?_
   refine km (λW hm=>ld 0 hm rfl rfl rfl (ot rfl) rfl) ?_
   iterate 3 refine kq ?_
   refine km (λW hm=>ld 0 hm rfl rfl rfl (ot rfl) rfl) ?_;refine DJ rfl rfl (λK hK=>?_);go_simp;refine MW (CS.o _ _ hm) ?_;refine hK _ _ ⟨λW=>Own _ W _ _,λ_ h=>h,hm,?_⟩;clear hK K
   refine bj rfl rfl (λW=>by go_simp;(rfl)) ?_
   try simp only[Act.put,s3]
   iterate 2 refine kq ?_
   refine Em rfl rfl (AZ 0 hm rfl rfl (Ac rfl) rfl (ot rfl) G5 rfl rfl rfl ?_)
   clear hm;intro w hm
   try simp only[puts,s2,List.set,List.eraseIdx,s3]at hm
   refine⟨λW=>Own _ W _ _,hm,?_⟩
   try simp only[Act.put,s3]
   refine Ba ?_;go_simp
   go_wp2_with((with_reducible refine bE (t:=104) ?_;(refine Ad rfl (AZ 0 hm rfl rfl rfl rfl (ot rfl) G5 rfl rfl rfl ?_);clear hm;intro w hm;try simp only[puts,s2,List.set,List.eraseIdx,s3]at hm)))
   go_ret2
   exact⟨rfl,hm⟩
  .have q1:(k==m)=false:=by simp[hkm]
   go_wp2_with fail
   go_ret2
   exact⟨rfl,hm⟩
end
section
variable{sc tc:ai}{bud e1 kd m1 md n1 p1 peak s1:Int}{l t:ac}{ss:O1}{ga gd gs gt gx n sp spc tcap:Nat}{p q r s:O9}{rs:ae}{bv pa pp pr sv:NY}{w w0:FC}
def Own.nt(h:Own w0 w (p::q::r::s::rs) ss):Own w0 w (r::s::p::q::rs) ss:=h.perm ((gK (l₁:=[r,s]) (l₂:=[p,q])).append_right rs)
def XD{v:NY}(m p q came:Int)(st told all e:Int)(hm:Own w0 w ((gd,DRw bud md pa pr pp sv m p q came bv st told all e)::rs) ss):ak 59 #[gd,.agg (aw kd n1 m1 p1 s1 v e1)] w (RO (.int .i64 0) w0 ((gd,DRw bud md pa pr pp sv m1 p1 s1 0 bv st told all e)::rs) ss):=by
 go_enter func59,ntmps59
 go_wp2_with(refine UV ?_;try(clear hm;intro w gp hm))
 exact mU
def A6R{v:NY}(m p q came:Int)(st told all e:Int)(hm:Own w0 w ((gd,DRw bud md pa pr pp sv m p q came bv st told all e)::rs) ss):ak 62 #[gd,.agg (aw kd n1 m1 p1 s1 v e1)] w (RO (.int .i64 (if s1=all then 0 else 260)) w0 ((gd,DRw bud md pa pr pp sv m p q came bv st told all e)::rs) ss):=by
 go_enter func62,ntmps62
 go_upto_region 1 with((with_reducible refine wb hm ?_;clear hm;intro w g hm))
 refine rO hm 8 (.am [(0,false),(1,false),(2,true),(3,false),(4,false),(5,false),(6,true),(7,false)] .done) ?_;clear hm;intro w hm;simp only[KT.am]
 iterate 2 refine kq ?_
 refine km (λW hm=>ld 0 hm rfl rfl rfl (ot rfl) rfl) ?_
 iterate 3 refine kq ?_
 refine km (λW hm=>ld 1 hm rfl rfl rfl (ot rfl) rfl) ?_;refine kq ?_;refine Ba ?_;go_simp;by_cases hq:s1=all
 .subst hq;have q1:(s1 !=s1)=false:=G5
  go_wp2;exact mU
 .have q1:(s1 !=all)=true:=by simpa using hq
  go_wp2;exact mU
def S8(k:Nat)(live:Int)(m p q:Int)(bv:NY)(st told all e:Int)(hm:Own w0 w ((gd,DRw bud md (.pointer ga) pr pp (.slice (some ⟨gs,sp,none⟩) 2 spc) m p q ((k:Int)) bv st told all e)::(ga,AR (.slice gx l.length l.length) live peak)::(gx,B l)::(gs,sc)::(gt,tc)::rs) ss)(h0:sc[sp]?=some (.int .i64 0))(h1:sc[sp+1]?=some (.int .i64 n))(ht:∀(j:Nat)(u:NY),(vs .u8 t)[j]?=some u->tc[j]?=some u)(hn:(n:Int)<=live)(hl:live<=l.length)(hb:l.length<=1048576)(hk:k+t.length<=n)(t0:0<t.length):ak 60 #[gd,.agg (aw kd n1 m1 p1 s1 (.slice gt t.length tcap) e1)] w (RO (.int .i64 0) w0 ((gd,DRw bud md (.pointer ga) pr pp (.slice (some ⟨gs,sp,none⟩) 2 spc) m p q (((k+t.length:Nat):Int)) bv st told all e)::(ga,AR (.slice gx l.length l.length) live peak)::(gx,B (f9 l (0+k) t))::(gs,sc)::(gt,tc)::rs) ss):=by
 have HS0:Hid (sc[sp+0*2]?=some (.int .i64 0)):=aa (by simpa using h0);have HS1:Hid (sc[sp+0*2+1]?=some (.int .i64 n)):=aa (by simpa using h1)
 have HT:Hid (∀W f R,Own w0 W (f::(gd,R)::(ga,AR (.slice gx l.length l.length) live peak)::(gx,B l)::(gs,sc)::(gt,tc)::rs) ss->∀(j:Nat)(u:NY),(vs .u8 t)[j]?=some u->W.cell? ((⟨gt,0,none⟩:Addr).add j)=some u):=λW f R h j u hj=>by
  rw[fQ,dA];have:=(h.row 5 rfl).cell j;rw[this];exact ht j u hj
 clear h0 h1 ht;obtain⟨i1,hE⟩:=mz;have HE:=aa hE;clear hE;have w1:IntKind.i64.wrap ((k:Int)+t.length)=((k+t.length:Nat):Int):=by rw[aZ _ FP];push_cast;rfl
 go_enter func60,ntmps60
 go_upto_region 1 with((with_reducible refine wb hm ?_;clear hm;intro w g hm))
 refine rO hm 16 (.am [(0,false),(1,false),(2,false),(3,true),(4,false),(5,false),(6,false),(7,true),(8,false),(9,true),(10,false),(11,false),(12,false),(13,true),(14,false),(15,true)] (.brk 16 17 .done)) ?_;clear hm;intro w hm;simp only[KT.am]
 iterate 3 refine kq ?_
 refine km (λW hm=>ld 1 hm rfl rfl rfl (ot rfl) rfl) ?_
 iterate 3 refine kq ?_
 refine km (λW hm=>ld 1 hm rfl rfl rfl (ot rfl) rfl) ?_
 refine bj rfl rfl (λW=>ix (k:=0) rfl HE.o rfl rfl rfl FP) ?_
 try simp only[Act.put,s3]
 refine km (λW hm=>jb 4 hm rfl rfl rfl (ag rfl) HS0.o HS1.o) ?_
 iterate 3 refine kq ?_
 refine km (λW hm=>ld 1 hm rfl rfl rfl (ot rfl) rfl) ?_;refine kq ?_;refine km (λW hm=>ld 0 hm rfl rfl rfl (ot rfl) rfl) ?_;refine PO rfl rfl (λK hK=>?_);go_simp;refine(Mg 0 n k l t ⟨gt,0,none⟩ tcap hm.nt (HT.o _ _ _ hm) FP FP FP FP FP).mono ?_;rintro e w1⟨rfl,hm⟩;replace hm:=hm.nt;refine hK _ _ ⟨λW=>Own _ W _ _,hm,?_⟩;clear hK K;refine Ba ?_;go_simp
 go_upto_region 2 with fail
 refine rO hm 10 (.am [(0,false),(1,false),(2,false),(3,true),(4,false),(5,true),(6,false),(7,false),(8,false),(9,false)] (.brk 10 11 .done)) ?_;clear hm;intro w hm;simp only[KT.am]
 iterate 3 refine kq ?_
 refine km (λW hm=>ld 1 hm rfl rfl rfl (ot rfl) rfl) ?_;refine kq ?_;refine km (λW hm=>ld 0 hm rfl rfl rfl (ot rfl) rfl) ?_;refine kq ?_
 refine bj rfl rfl (λW=>by go_simp;(rfl)) ?_
 try simp only[Act.put,s3]
 iterate 2 refine kq ?_
 ((refine Em rfl rfl (AZ 1 hm rfl rfl (Ac rfl) rfl (ot rfl) G5 rfl rfl rfl ?_)))
 clear hm;intro w hm
 try simp only[puts,s2,List.set,List.eraseIdx,s3]at hm
 refine⟨λW=>Own _ W _ _,hm,?_⟩
 try simp only[Act.put,s3]
 refine Ba ?_;go_simp;go_wp2;exact mU
end
end Go.Proofs.YtkpbhdhkdonghaaGreat

set_option linter.all false
namespace Go.Proofs.YtkpbhdhkdonghaaGreat
open Go Go.RowKit
def chk(out:ac)(p s:Int):Except Int ac:=match eC out p.toNat out.length 0 []with
|none=>.error 170
|some t=>if crc 0 [t.reverse]=s then .ok t.reverse else .error 250
def G(c:Cf)(out x:ac)(b:Nat):ac×Nat×Int:=
 if h:H6 (AB c).1=true then(x,b,match(AB c).1 with|some (.bad e)=>e|_=>0)
 else match(AB c).1 with
 |some (.block _ _ _)=>G (AB c).2 [] x b
 |some (.bytes t)=>G (AB c).2 (out++t) x b
 |some (.U5 _ p s)=>match chk out p s with
  |.error e=>(x,b,e)
  |.ok t=>G (AB c).2 [] (x++t) (b+1)
 |some (.tail s)=>if s=crc 0 [x]then G (AB c).2 out x b else(x,b,260)
 |_=>G (AB c).2 out x b
termination_by c.mu
decreasing_by all_goals exact Ol c GU
def b8:HT->ac->Except Int (Int×ac)
|_,[]=>.error 50
|t,x::R=>match t.step x with
 |.go t2=>b8 t2 R
 |.done n=>.ok (n,R)
 |.bad e=>.error e
def BO(n:Int):MT->ac->Except Int (MR×ac)
|_,[]=>.error 50
|t,x::R=>match t.step n x with
 |.go t2=>BO n t2 R
 |.bad=>.error 242
 |r=>.ok (r,R)
def Dt(L:ac):Int->Nat->DS->ac->ac->Nat->Except Int (ac×Nat)
|_,_,_,[],_,_=>.error 50
|q,k,b,x::r,out,a=>
  if(aR L q k x).2.2.2=true then
   (if(FY b (aR L q k x).2.2.1).2.2.2=0 then
    (if(FY b (aR L q k x).2.2.1).2.2.1=true then .ok (out++(FY b (aR L q k x).2.2.1).2.1,a+1)
    else Dt L (aR L q k x).1 (aR L q k x).2.1 (FY b (aR L q k x).2.2.1).1 r (out++(FY b (aR L q k x).2.2.1).2.1) (a+1))
   else .error (FY b (aR L q k x).2.2.1).2.2.2)
  else Dt L (aR L q k x).1 (aR L q k x).2.1 b r out (a+1)
def Ik(m p s:Int)(rest:ac):Except Int (ac×ac):=
 if(Bv bz (bitsOf rest (8*rest.length)) 0).2.2=0 then
  match Dt (Bv bz (bitsOf rest (8*rest.length)) 0).1 0 0 (dNew m) ((bitsOf rest (8*rest.length)).drop (Bv bz (bitsOf rest (8*rest.length)) 0).2.1.toNat) [] 0 with
 |.error e=>.error e
 |.ok (last,many)=>if zpad rest ((Bv bz (bitsOf rest (8*rest.length)) 0).2.1.toNat+many)then
    (match chk last p s with
   |.error e=>.error e
   |.ok t=>.ok (t,rest.drop (((Bv bz (bitsOf rest (8*rest.length)) 0).2.1.toNat+many+7)/8)))
   else .error 160
 else .error (Bv bz (bitsOf rest (8*rest.length)) 0).2.2
def IW(n:Int):Nat->ac->ac->Nat->ac×Nat×Int
|0,_,x,b=>(x,b,1)
|f+1,left,x,b=>match BO n .mark left with
 |.ok (.block m p s,rest)=>(match Ik m p s rest with
  |.error e=>(x,b,e)
  |.ok (t,r2)=>IW n f r2 (x++t) (b+1))
 |.ok (.tail s,rest)=>if s=crc 0 [x]then(if 0<rest.length then(x,b,261)else(x,b,0))else(x,b,260)
 |.ok _=>(x,b,1)
 |.error e=>(x,b,e)
section
variable{n m p s:Int}{R out x:ac}{b j:Nat}
def NJ{c:Cf}(h:(AB c).1=none):G c out x b=G (AB c).2 out x b:=by
 rw[G,h];rfl
def OU{c:Cf}{e:Int}(h:(AB c).1=some (.bad e)):G c out x b=(x,b,e):=by
 rw[G,h];rfl
def yP:∀(R:ac)(t:MT)(j:Nat),G ⟨.mark n t,R,j⟩ out x b=match BO n t R with
 |.ok (.block m p s,rest)=>G ⟨.table n m p s bz,rest,0⟩ [] x b
 |.ok (.tail s,rest)=>if s=crc 0 [x]then G ⟨.behind,rest,0⟩ out x b else(x,b,260)
 |.ok _=>(x,b,1)
 |.error e=>(x,b,e)
|[],t,j=>by rw[OU (e:=50) rfl];rfl
|y::R,t,j=>by
  have ih:=yP R;cases hr:t.step n y with
 |go t2=>
   have hc:AB ⟨.mark n t,y::R,j⟩=(none,⟨.mark n t2,R,0⟩):=by simp[AB,hr,MX]
   rw[NJ Hu,hc,ih t2 0,BO,hr]
 |block m p s=>
   have hc:AB ⟨.mark n t,y::R,j⟩=(some (.block m p s),⟨.table n m p s bz,R,0⟩):=by simp[AB,hr,MX]
   rw[G,hc,BO,hr];rfl
 |tail s=>
   have hc:AB ⟨.mark n t,y::R,j⟩=(some (.tail s),⟨.behind,R,0⟩):=by simp[AB,hr,MX]
   rw[G,hc,BO,hr];rfl
 |bad=>
   have hc:AB ⟨.mark n t,y::R,j⟩=(some (.bad 242),⟨.bad 242,R,0⟩):=by simp[AB,hr,MX]
   rw[OU (e:=242) Hu,BO,hr]
def RF:∀(R:ac)(t:MT)(r:MR)(rest:ac),BO n t R=.ok (r,rest)->rest.length<R.length
|[],t,r,rest,h=>by cases h
|y::R,t,r,rest,h=>by
  rw[BO]at h;cases hr:t.step n y with
 |go t2=>rw[hr]at h;have:=RF R t2 r rest h;simp;omega
 |block m p s=>rw[hr]at h;cases h;simp
 |tail s=>rw[hr]at h;cases h;simp
 |bad=>rw[hr]at h;cases h
def VW(R:ac)(j:Nat)(h:j<8*R.length):(bitsOf R (8*R.length)).drop j=AP R j::(bitsOf R (8*R.length)).drop (j+1):=by
 have hl:j<(bitsOf R (8*R.length)).length:=by simp[bitsOf];exact h
 rw[jg hl]
 congr 1
 simp[bitsOf]
def ZK(R:ac)(j:Nat)(h:¬j<8*R.length):(bitsOf R (8*R.length)).drop j=[]:=qh (by simp[bitsOf];omega)
def kK:∀(d:Nat)(t:TT)(j:Nat),j+d=8*R.length->G ⟨.table n m p s t,R,j⟩ out x b=
  if(Bv t ((bitsOf R (8*R.length)).drop j) j).2.2=0 then G ⟨.syms n m p s (Bv t ((bitsOf R (8*R.length)).drop j) j).1 0 0 (dNew m),R,(Bv t ((bitsOf R (8*R.length)).drop j) j).2.1.toNat⟩ out x b else(x,b,(Bv t ((bitsOf R (8*R.length)).drop j) j).2.2)
|0,t,j,h=>by
  have hj:¬j<8*R.length:=FP
  rw[OU (e:=50) (by simp[AB,hj]),ZK R j hj,Bv,aP FU]
|d+1,t,j,h=>by
  have hj:j<8*R.length:=FP
  have ih:=kK d;rw[VW R j hj,Bv];by_cases h1:(t.next (AP R j)).2=true
  .rw[aQ h1];by_cases h2:(t.next (AP R j)).1.s=258
   .rw[aQ h2,aQ rfl];have hc:AB ⟨.table n m p s t,R,j⟩=(none,⟨.syms n m p s (t.next (AP R j)).1.l 0 0 (dNew m),R,j+1⟩):=by simp[AB,hj,Oj,h1,h2]
    rw[NJ Hu,hc]
    congr 2
   .rw[aP h2];have hc:AB ⟨.table n m p s t,R,j⟩=(none,⟨.table n m p s (t.next (AP R j)).1,R,j+1⟩):=by simp[AB,hj,Oj,h1,h2]
    rw[NJ Hu,hc,ih _ (j+1) FP];rfl
  .rw[aP h1,aP FU];rw[OU (e:=100) (by simp[AB,hj,Oj,h1])]
def Nw:∀(l:ac)(t:TT)(i:Int),(Bv t l i).2.2=0->i<(Bv t l i).2.1/\(Bv t l i).2.1<=i+l.length
|[],t,i,h=>by simp[Bv]at h
|y::l,t,i,h=>by
  rw[Bv]at h⊢;split at h
  .rename_i h1;rw[aQ h1];split at h
   .rename_i h2;rw[aQ h2];simp only[bD];omega
   .rename_i h2;rw[aP h2];have:=Nw l _ _ h;simp only[bD];omega
  .simp at h
def Om(L:ac):∀(q:Int)(k:Nat)(b:DS)(l out:ac)(a:Nat)(last:ac)(many:Nat),Dt L q k b l out a=.ok (last,many)->a<many
|q,k,b,[],out,a,last,many,h=>by cases h
|q,k,b,x::r,out,a,last,many,h=>by
  rw[Dt]at h;split at h
  .split at h
   .split at h
    .cases h;omega
    .have:=Om L _ _ _ r _ _ last many h;omega
   .cases h
  .have:=Om L _ _ _ r _ _ last many h;omega
def yO(L:ac):∀(d:Nat)(q:Int)(k:Nat)(bs:DS)(j a:Nat)(out:ac),j+d=8*R.length->G ⟨.syms n m p s L q k bs,R,j⟩ out x b=
  match Dt L q k bs ((bitsOf R (8*R.length)).drop j) out a with
 |.error e=>(x,b,e)
 |.ok (last,many)=>G ⟨.pad n m p s,R,j+(many-a)⟩ last x b
|0,q,k,bs,j,a,out,h=>by
  have hj:¬j<8*R.length:=FP
  rw[OU (e:=50) (by simp[AB,hj]),ZK R j hj,Dt]
|d+1,q,k,bs,j,a,out,h=>by
  have hj:j<8*R.length:=FP
  have ih:=yO L d;rw[VW R j hj,Dt];by_cases h1:(aR L q k (AP R j)).2.2.2=true
  .rw [aQ h1]
   have hs:AB ⟨.syms n m p s L q k bs,R,j⟩=MQ n m p s L (aR L q k (AP R j)).1 (aR L q k (AP R j)).2.1 (FY bs (aR L q k (AP R j)).2.2.1) R (j+1):=by
    simp only[AB,aQ hj,eY,aQ h1]
   generalize (aR L q k (AP R j)).1=q2 at*;generalize (aR L q k (AP R j)).2.1=k2 at*;generalize FY bs (aR L q k (AP R j)).2.2.1=o at*;by_cases h2:o.2.2.2=0
   .rw[aQ h2]
    have hG:G ⟨.syms n m p s L q k bs,R,j⟩ out x b=G ⟨if o.2.2.1 then .pad n m p s else .syms n m p s L q2 k2 o.1,R,j+1⟩ (out++o.2.1) x b:=by
     rw[MQ,aQ h2]at hs;by_cases h3:0<o.2.1.length
     .rw[aQ h3]at hs;rw[G,hs];rfl
     .rw[aP h3]at hs;have:o.2.1=[]:=l9.1 FP;rw[NJ (by rw[hs]),hs,this,fF]
    rw[hG];by_cases h3:o.2.2.1=true
    .rw[aQ h3,aQ h3]
     congr 2
     omega
    .rw[aP h3,aP h3,ih q2 k2 o.1 (j+1) (a+1) (out++o.2.1) FP];cases hc:Dt L q2 k2 o.1 ((bitsOf R (8*R.length)).drop (j+1)) (out++o.2.1) (a+1)with
    |error e=>rfl
    |ok r=>
      exact Or
   .rw[aP h2];rw[MQ,aP h2]at hs;rw[OU (by rw[hs])]
  .rw[aP h1]
   have hs:AB ⟨.syms n m p s L q k bs,R,j⟩=(none,⟨.syms n m p s L (aR L q k (AP R j)).1 (aR L q k (AP R j)).2.1 bs,R,j+1⟩):=by
    simp only[AB,aQ hj,eY,aP h1]
   rw[NJ (by rw[hs]),hs,ih _ _ bs (j+1) (a+1) out FP];cases hc:Dt L (aR L q k (AP R j)).1 (aR L q k (AP R j)).2.1 bs ((bitsOf R (8*R.length)).drop (j+1)) out (a+1)with
  |error e=>rfl
  |ok r=>
    exact Or
def a0e:G ⟨.pad n m p s,R,j⟩ out x b=if zpad R j=true then(match chk out p s with
 |.error e=>(x,b,e)
 |.ok t=>G ⟨.mark n .mark,R.drop ((j+7)/8),0⟩ [] (x++t) (b+1))else(x,b,160):=by
 by_cases h:zpad R j=true
 .rw[aQ h];have hc:AB ⟨.pad n m p s,R,j⟩=(some (.U5 m p s),⟨.mark n .mark,R.drop ((j+7)/8),0⟩):=by simp[AB,h]
  rw[G,hc];rfl
 .rw[aP h];have hc:AB ⟨.pad n m p s,R,j⟩=(some (.bad 160),⟨.bad 160,R.drop ((j+7)/8),0⟩):=by simp[AB,h]
  rw[OU (e:=160) Hu]
def Z2:G ⟨.table n m p s bz,R,0⟩ [] x b=match Ik m p s R with
 |.error e=>(x,b,e)
 |.ok (t,r2)=>G ⟨.mark n .mark,r2,0⟩ [] (x++t) (b+1):=by
 rw[kK (8*R.length) bz 0 FP,Ik,wE];have e0:((0:Nat):Int)=0:=rfl;rw[e0];by_cases h:(Bv bz (bitsOf R (8*R.length)) 0).2.2=0
 .rw[aQ h,aQ h];have hl:=Nw _ _ _ h;have hb:(bitsOf R (8*R.length)).length=8*R.length:=by simp[bitsOf]
  rw[hb]at hl;generalize Bv bz (bitsOf R (8*R.length)) 0=o at*;rw[yO o.1 (8*R.length-o.2.1.toNat) 0 0 (dNew m) o.2.1.toNat 0 [] FP];cases Dt o.1 0 0 (dNew m) ((bitsOf R (8*R.length)).drop o.2.1.toNat) [] 0 with
 |error e=>rfl
 |ok r=>
   show G _ _ _ _=_;rw[a0e,jc];by_cases hz:zpad R (o.2.1.toNat+r.2)=true
   .rw[aQ hz];simp only[hz,fP];cases chk r.1 p s<;>rfl
   .rw[aP hz];simp only[hz];rfl
 .rw[aP h,aP h]
def lK{t r2:ac}(h:Ik m p s R=.ok (t,r2)):r2.length<=R.length:=by
 unfold Ik at h
 repeat' split at h
 all_goals first|(cases h;done)|(cases h;simp)
def BV:∀(f:Nat)(left x:ac)(b:Nat)(out:ac),left.length<f->G ⟨.mark n .mark,left,0⟩ out x b=IW n f left x b
|0,left,x,b,out,h=>by omega
|f+1,left,x,b,out,h=>by
  rw[yP,IW];cases hr:BO n .mark left with
 |error e=>rfl
 |ok q=>
   obtain⟨r,rest⟩:=q;have hl:=RF left _ _ _ hr;cases r with
  |go t=>rfl
  |bad=>rfl
  |block m p s=>
    show G _ _ _ _=_;rw[Z2];cases hb:Ik m p s rest with
   |error e=>simp only[hb]
   |ok q=>
     obtain⟨t,r2⟩:=q;have:=lK hb;simp only[hb];exact BV f r2 (x++t) (b+1) [] FP
  |tail s=>
    show(if _ then _ else _)=(if _ then _ else _);by_cases hs:s=crc 0 [x]
    .rw[aQ hs,aQ hs,G];by_cases h0:0<rest.length
     .simp[AB,h0,H6,ba.last]
     .simp[AB,h0,H6,ba.last]
    .rw[aP hs,aP hs]
def yQ:∀(R:ac)(t:HT)(j:Nat),G ⟨.head t,R,j⟩ out x b=match b8 t R with
 |.error e=>(x,b,e)
 |.ok (n,left)=>G ⟨.mark n .mark,left,0⟩ out x b
|[],t,j=>by rw[OU (e:=50) rfl];rfl
|y::R,t,j=>by
  have ih:=yQ R;cases hr:t.step y with
 |go t2=>
   have hc:AB ⟨.head t,y::R,j⟩=(none,⟨.head t2,R,0⟩):=by simp[AB,hr,Qs]
   rw[NJ Hu,hc,ih t2 0,b8,hr]
 |done n=>
   have hc:AB ⟨.head t,y::R,j⟩=(some (.head n),⟨.mark n .mark,R,0⟩):=by simp[AB,hr,Qs]
   rw[G,hc,b8,hr];rfl
 |bad e=>
   have hc:AB ⟨.head t,y::R,j⟩=(some (.bad e),⟨.bad e,R,0⟩):=by simp[AB,hr,Qs]
   rw[OU (e:=e) Hu,b8,hr]
end
section
variable{en:Bool}{c c2:Cf}{b:DS}{N g m p q:Int}{R l:ac}{k ph0 ro0 ro1:Nat}
def Xv(b:DS)(s:Int)(h:(FY b s).2.2.2=0):((FY b s).2.1.length:Int)+(FY b s).1.left=b.left/\0<=(FY b s).1.left/\((FY b s).2.2.1=true->(FY b s).1.left=0):=LA
def QX(h:Vl l):0<=takeC l p/\takeC l p<256:=by
 unfold takeC;split
 .rename_i hp;exact h.bytes.gi _ KH
 .omega
def a0U(h:Vl b.l)(s:Int):Bytes (FY b s).2.1:=by
 have hr:Bytes b.rep:=λx hx=>by
  rw[DS.rep]at hx;rw[ni hx];exact h.bytes.gi 0 KH
 have hn:Bytes ([]:ac):=λx hx=>by cases hx
 rw[FY];split
 .split
  .rw [G9];split
   .exact hn
   .split
    .exact hr
    .split
     .exact hn
     .intro x hx;rcases dG.1 hx with hx|hx
      .exact hr x hx
      .rw[fC.1 hx];exact QX h
  .exact hn
 .exact hn
def PS.ph:PS->Nat
|.head _=>0
|.table _ _ _ _ _=>2
|.syms _ _ _ _ _ _ _ _=>2
|.pad _ _ _ _=>2
|_=>1
def Cf.ro(c:Cf):Nat:=if c.s.ph=2 then c.R.length+1 else c.R.length
def Hd(N m p q n k a b:Int):Prop:=n=N/\1<=n/\n<=65536/\m=k/\p=a/\q=b/\1<=k/\k<=n/\1<=a/\a<=k/\0<=b/\b<4294967296
def EI(c:Cf)(N m p q g:Int):Prop:=Bytes c.R/\c.j<=8*c.R.length/\match c.s with
|.head t=>t.ok
|.mark n t=>n=N/\1<=n/\n<=65536/\t.ok n
|.table n k a b _=>Hd N m p q n k a b/\g=0
|.syms n k a b _ _ _ d=>Hd N m p q n k a b/\g+d.left=m/\0<=d.left/\Vl d.l/\1<=c.j
|.pad n k a b=>Hd N m p q n k a b/\g=m/\1<=c.j
|_=>True
def o6(ph0 ro0:Nat)(c2:Cf)(N m p q g:Int):ba->Prop
|.head n=>ph0=0/\c2.s.ph=1/\c2.ro<=ro0/\1<=n/\n<=65536/\∀m p q g,EI c2 n m p q g
|.block k a b=>ph0=1/\c2.s.ph=2/\c2.ro<=ro0/\EI c2 N k a b 0/\Hd N k a b N k a b
|.bytes t=>ph0=2/\c2.s.ph=2/\c2.ro<=ro0/\g+t.length<=m/\m<=N/\Bytes t/\EI c2 N m p q (g+t.length)
|.U5 k a b=>ph0=2/\c2.s.ph=1/\c2.ro+1<=ro0/\g=m/\Hd N m p q N m p q/\EI c2 N m p q g
|.tail s=>ph0=1/\c2.s.ph=1/\c2.ro<=ro0/\0<=s/\s<4294967296/\EI c2 N m p q g
|.need=>c2.s.ph=ph0/\c2.ro<=ro0/\EI c2 N m p q g
|.fin=>ph0=1/\c2.s.ph=1/\c2.ro<=ro0/\EI c2 N m p q g
|_=>c2.s.ph=1/\c2.ro<=ro0/\EI c2 N m p q g
def OP(ph0 ro0:Nat)(c2:Cf)(N m p q g:Int):Option ba->Prop
|none=>c2.s.ph=ph0/\c2.ro<=ro0/\EI c2 N m p q g
|some ev=>o6 ph0 ro0 c2 N m p q g ev
def Lf(h:Bytes R):Bytes (R.drop k):=λx hx=>h x (iw hx)
def EI.step{c:Cf}{N m p q g:Int}(h:EI c N m p q g):OP c.s.ph c.ro (AB c).2 N m p q g (AB c).1:=by
 obtain⟨s,R,j⟩:=c;obtain⟨hb,hj0,h⟩:=h;simp only at hb hj0;cases s with
|head t=>
  simp only at h;cases R with
 |nil=>exact⟨rfl,by simp[Cf.ro,PS.ph,AB],hb,hj0,trivial⟩
 |cons x R=>
   have h0:=hb x G5;have hb2:Bytes R:=λy hy=>hb y (fB _ hy);have hok:=HT.step_ok h h0.1 (show x<=255 by omega);simp only[AB];cases hr:t.step x with
  |go t2=>rw[hr]at hok;exact⟨rfl,by simp[Cf.ro,PS.ph,Qs],hb2,dD _,hok⟩
  |done n=>rw[hr]at hok;exact⟨rfl,rfl,by simp[Cf.ro,PS.ph,Qs],hok.1,hok.2,λ_ _ _ _=>⟨hb2,dD _,rfl,hok.1,hok.2,trivial⟩⟩
  |bad e=>exact⟨rfl,by simp[Cf.ro,PS.ph,Qs],hb2,dD _,trivial⟩
|mark n t=>
  simp only at h;obtain⟨rfl,n1,n2,ho⟩:=h;cases R with
 |nil=>exact⟨rfl,by simp[Cf.ro,PS.ph,AB],hb,hj0,trivial⟩
 |cons x R=>
   have h0:=hb x G5;have hb2:Bytes R:=λy hy=>hb y (fB _ hy);have hok:=MT.step_ok n1 n2 ho h0.1 (show x<=255 by omega);simp only[AB];cases hr:MT.step n x t with
  |go t2=>rw[hr]at hok;exact⟨rfl,by simp[Cf.ro,PS.ph,MX],hb2,dD _,rfl,n1,n2,hok⟩
  |block k a b=>
    rw[hr]at hok;obtain⟨k1,k2,a1,a2,b1,b2⟩:=hok;exact⟨rfl,rfl,by simp[Cf.ro,PS.ph,MX],⟨hb2,dD _,⟨rfl,n1,n2,rfl,rfl,rfl,k1,k2,a1,a2,b1,b2⟩,rfl⟩,⟨rfl,n1,n2,rfl,rfl,rfl,k1,k2,a1,a2,b1,b2⟩⟩
  |tail s=>rw[hr]at hok;exact⟨rfl,rfl,by simp[Cf.ro,PS.ph,MX],hok.1,hok.2,hb2,dD _,trivial⟩
  |bad=>exact⟨rfl,by simp[Cf.ro,PS.ph,MX],hb2,dD _,trivial⟩
|table n k a b t=>
  obtain⟨hh,rfl⟩:=h;simp only[AB];split
  .rename_i hj;rw[Oj];split
   .split
    .have hm:dNew k=⟨new,k,0,0,false⟩:=Oi (by have:=hh.2.2.2.2.2.2;omega) (by have:=hh.2.2;omega);exact⟨rfl,aX _,hb,hj,hh,by rw[hm];simp only;have:=hh.2.2.2.1;omega,by rw[hm];simp only;have:=hh.2.2.2.2.2.2;omega,by rw[hm];exact nl,G5⟩
    .exact⟨rfl,aX _,hb,hj,hh,rfl⟩
   .exact⟨rfl,by simp[Cf.ro,PS.ph],hb,hj,trivial⟩
  .exact⟨rfl,by simp[Cf.ro,PS.ph],hb,hj0,trivial⟩
|syms n k a b L u i d=>
  obtain⟨hh,hg,hl,hv,hj1⟩:=h;simp only[AB];split
  .rename_i hj;rw[eY];split
   .have hd:=Xv d (aR L u i (AP R j)).2.2.1;have hdb:=a0U hv (aR L u i (AP R j)).2.2.1;have hdv:=Xu hv (aR L u i (AP R j)).2.2.1;generalize FY d (aR L u i (AP R j)).2.2.1=o at*;rw[MQ];split
    .rename_i h0;obtain⟨h1,h2,h3⟩:=hd h0;have hmN:=hh;obtain⟨e1,_,_,e2,_,_,_,e3,_⟩:=hmN;by_cases ht:0<o.2.1.length
     .rw[aQ ht];cases hf:o.2.2.1 with
     |true=>have:=h3 hf;exact⟨rfl,rfl,aX _,FP,FP,hdb,hb,hj,hh,FP,G5⟩
     |false=>exact⟨rfl,rfl,aX _,FP,FP,hdb,hb,hj,hh,FP,h2,hdv,G5⟩
     .rw[aP ht];cases hf:o.2.2.1 with
     |true=>have:=h3 hf;exact⟨rfl,aX _,hb,hj,hh,FP,G5⟩
     |false=>exact⟨rfl,aX _,hb,hj,hh,FP,h2,hdv,G5⟩
    .exact⟨rfl,by simp[Cf.ro,PS.ph],hb,hj,trivial⟩
   .exact⟨rfl,aX _,hb,hj,hh,hg,hl,hv,G5⟩
  .exact⟨rfl,by simp[Cf.ro,PS.ph],hb,hj0,trivial⟩
|pad n k a b=>
  obtain⟨hh,hg,hj1⟩:=h;simp only at hj1;simp only[AB];split
  .obtain⟨rfl,n1,n2,rfl,rfl,rfl,h2⟩:=hh;exact⟨rfl,rfl,by simp[Cf.ro,PS.ph]<;>omega,hg,⟨rfl,n1,n2,rfl,rfl,rfl,h2⟩,Lf hb,dD _,rfl,n1,n2,trivial⟩
  .exact⟨rfl,by simp[Cf.ro,PS.ph]<;>omega,Lf hb,dD _,trivial⟩
|behind=>
  simp only[AB];split
  .exact⟨rfl,aX _,hb,hj0,trivial⟩
  .exact⟨rfl,rfl,aX _,hb,hj0,trivial⟩
|over=>exact⟨rfl,rfl,aX _,hb,hj0,trivial⟩
|bad e=>exact⟨rfl,aX _,hb,hj0,trivial⟩
def EI.nu(h:EI c N m p q g):OP c.s.ph c.ro (br en c).2 N m p q g (br en c).1:=by
 unfold br;split
 .exact⟨rfl,aX _,h⟩
 .exact h.step
def o6.mono{ev:ba}(h:o6 ph0 ro0 c2 N m p q g ev)(hr:ro0<=ro1):o6 ph0 ro1 c2 N m p q g ev:=by
 cases ev with
|head n=>exact⟨h.1,h.2.1,jy h.2.2.1 hr,h.2.2.2⟩
|block k a b=>exact⟨h.1,h.2.1,jy h.2.2.1 hr,h.2.2.2⟩
|bytes t=>exact⟨h.1,h.2.1,jy h.2.2.1 hr,h.2.2.2⟩
|U5 k a b=>exact⟨h.1,h.2.1,jy h.2.2.1 hr,h.2.2.2⟩
|tail s=>exact⟨h.1,h.2.1,jy h.2.2.1 hr,h.2.2.2⟩
|need=>exact⟨h.1,jy h.2.1 hr,h.2.2⟩
|fin=>exact⟨h.1,h.2.1,jy h.2.2.1 hr,h.2.2.2⟩
|bad e=>exact⟨h.1,jy h.2.1 hr,h.2.2⟩
def cJ.ei{ev:ba}(h:cJ en c ev c2)(hi:EI c N m p q g):o6 c.s.ph c.ro c2 N m p q g ev:=by
 induction h with
|now h=>have:=hi.nu (en:=en);rwa[h]at this
|later h _ ih=>
  have:=hi.nu (en:=en);rw[h]at this;have h2:=ih this.2.2;rw[this.1]at h2;exact h2.mono this.2.1
def N3(c:Cf):(AB c).1≠some .need:=by
 obtain⟨s,R,j⟩:=c;cases s with
|head t=>
  cases R with
 |nil=>simp[AB]
 |cons x R=>simp only[AB];cases t.step x<;>simp[Qs]
|mark n t=>
  cases R with
 |nil=>simp[AB]
 |cons x R=>simp only[AB];cases t.step n x<;>simp[MX]
|table n k a b t=>
  simp only[AB];split
  .rw[Oj];split
   .split<;>simp
   .simp
  .simp
|syms n k a b L u i d=>
  simp only[AB];split
  .rw[eY];split
   .rw[MQ];split
    .split<;>simp
    .simp
   .simp
  .simp
|pad n k a b=>simp only[AB];split<;>simp
|behind=>simp only[AB];split<;>simp
|over=>simp[AB]
|bad e=>simp[AB]
def cJ.A6r{ev:ba}(h:cJ true c ev c2):ev≠.need:=by
 induction h with
|now h=>
  rintro rfl;have:br true=AB:=rfl;rw[this]at h;exact N3 _ (by rw[h])
|later _ _ ih=>exact ih
end
open Go Tryz Go.RowKit
section
variable{A:Addr}{n:Int}{l:ac}{ss:O1}{k:Nat}{a b c:O9}{o:Oz}{x:O7}{rs:ae}{w w0:FC}
def qg(w:FC):(zeroValue 80).run prog w=.ok (.agg #[.int .i64 0]) w:=FZ
def rK:Aq prog 80 (#[.int .i64 n]:ai).size:=ag rfl
def Y5:∀v∈(#[.int .i64 n]:ai),v.oneCell'=true:=Dp (cs:=[.int .i64 n]) rfl
def a1a{a:OA}(ho:o.op=.build 80 #[(0,x)])(hx:a.eval x=.int .i64 n):(execOp a.eval o).run prog w=.ok (.value (.agg #[.int .i64 n])) w:=
 Dq ho Ip
def In.from{W:FC}{c:Nat}(h:In .u8 W (.slice (some A) l.length c) l)(hk:k<=l.length)(hc:l.length<=c):Src W (.slice (D8 (some A) c k) (l.length-k) (c-k)) (vs .u8 (l.drop k)):=by
 obtain⟨ad2,c2,he,hl⟩:=h;cases he;by_cases e:c=k
 .subst e;have:l.drop c=[]:=qh hc;rw[this,D8,aQ rfl];refine .inr ⟨A,c-c,?_,λj u hj=>by cases hj⟩;rw[show l.length-c=0 by omega];rfl
 .rw[D8,aP e];refine .inr ⟨A.add k,c-k,by simp[Ai],λj u hj=>?_⟩;have hlt:=(gI.1 hj).1;rw[Ai,dQ]at hlt;obtain⟨A2,h2,h3⟩:=hl (k+j) FP;cases h2;rw[Fg _ _ j KG]at hj;cases hj
  have e2:(A.add k).add j=A.add (k+j):=by
   by_cases h1:k=0<;>by_cases h2:j=0<;>simp[Addr.add,h1,h2,gG]
  rw[e2,h3];simp[gi]
def Own.a0t{X:ae}(h:Own w0 w (X++(a::b::c::rs)) ss):Own w0 w (a::b::c::(X++rs)) ss:=h.perm (by
 have e:(X++([a,b,c]++rs)).Perm ([a,b,c]++(X++rs)):=by
  exact rg
 exact e.symm)
def Own.QN{X:ae}(h:Own w0 w (a::b::c::(X++rs)) ss):Own w0 w (a::b::c::rs) ss:=h.sub (jw _ (jw _ (jw _ (bG X rs)))) (aY _)
def yM(w0:FC)(o:Except Int (Int×ac))(rs:ae)(ss:O1)(x:Ending)(w':FC):Prop:=match o with
|.error e=>e≠0/\x=.returned (.tuple #[.agg #[.int .i64 0],.slice none 0 0,.int .i64 e])/\Own w0 w' rs ss
|.ok (n,R)=>∃X v,x=.returned (.tuple #[.agg #[.int .i64 n],v,.int .i64 0])/\Lies 1 X v R.length (vs .u8 R)/\Own w0 w' (X++rs) ss
def a0K{v:NY}(hm:Own w0 w rs ss)(hv:∀W,Own w0 W rs ss->cC .u8 W v l)(hb:Bytes l)(hn:l.length<=1000):ak 45 #[v] w (yM w0 (b8 ⟨0,0,0⟩ l) rs ss):=by
 obtain⟨ad,cp,rfl,hlc,_⟩:=hv w hm;have HI:Hid (∀W,Own w0 W rs ss->In .u8 W (.slice ad l.length cp) l):=λW h=>(hv W h).zu
 have HC:Hid (∀W,Own w0 W rs ss->∀k,k<l.length->∃A,ad=some A/\W.cell? (A.add k)=some (.int .u8 (gi l k))):=λW h k hk=>by
  exact Dm
 obtain⟨i3,hE⟩:=Md;have HE:=aa hE;have HB:=aa hb;clear hE hb hv;go_enter func45,ntmps45
 go_wp2_with(first
 |(with_reducible first|refine wa 80 hm qg ?_;clear hm;intro w g2 hm|refine wa 137 hm Nc ?_;clear hm;intro w g5 hm))
 go_loopw[13] (λu wr=>∃(k:Nat)(t:HT),k<=l.length/\u=.int .i64 k/\t.ok/\b8 ⟨0,0,0⟩ l=b8 t (l.drop k)/\Own w0 wr ((g5,t.v)::(g2,#[.int .i64 0])::rs) ss) (λu _=>l.length-(intOf u).toNat)
 case atStart=>exact⟨0,⟨0,0,0⟩,FP,rfl,.inl ⟨FU,FU,rfl,rfl⟩,rfl,hm⟩
 case round=>
  clear hm;obtain⟨k,t,hk,rfl,ht,hR,hm⟩:=hrel;by_cases hlt:k<l.length
  .obtain⟨A,rfl,hA0⟩:=HC.o _ hm.dropRow.dropRow k hlt
   have HA:Hid (∀W(a b:O9),Own w0 W (a::b::rs) ss->W.cell? (A.add k)=some (.int .u8 (gi l k))):=λW a b h=>by
    obtain⟨A2,he,h2⟩:=HC.o _ h.dropRow.dropRow k hlt;cases he;exact h2
   have CC:Hid (∀W(a b c:O9),Own w0 W (a::b::c::rs) ss->ak 99 #[.slice (D8 (some A) cp (k+1)) (l.length-(k+1)) (cp-(k+1))] W λx w'=>∃X v,x=.returned v/\Lies 1 X v (l.drop (k+1)).length (vs .u8 (l.drop (k+1)))/\Own w0 w' (a::b::c::(X++rs)) ss):=λW a b c h=>by
    refine(clone_any (l.drop (k+1)) (In.from (HI.o _ h.dropRow.dropRow.dropRow) FP hlc) G8).mono λx w' hx=>?_;obtain⟨X,v,rfl,hX,hm⟩:=h.mL hx;exact⟨X,v,rfl,hX,hm.a0t⟩
   have hs:=HB.o (gi l k) JI;have hk1:k+1<=l.length:=hlt;rw[jg hlt,<-BZ l k hlt,b8]at hR;have CN:=aa (λw=>VA ht (gi l k) hs.1 FP w);have hok:=HT.step_ok ht hs.1 (show gi l k<=255 by omega);have HR:=aa hR;clear hA0 hR hs;generalize gi l k=x at*;generalize t.step x=r at*;obtain⟨a,V,M⟩:=t;simp only[HT.v]at hm;cases r with
  |go t2=>
    have hR:=HR.o;clear HR CC;obtain⟨a2,V2,M2⟩:=t2;have HN:Hid (b8 ⟨0,0,0⟩ l=b8 ⟨a2,V2,M2⟩ (l.drop (k+1))/\HT.ok ⟨a2,V2,M2⟩):=aa ⟨hR,hok⟩;clear hR hok ht;simp only[HR.val,HT.v]at CN
    go_wp2_with(first
     |with_reducible refine wa 137 hm Nc ?_;clear hm;intro w g8 hm
     |go_at_call 98;refine cB (CN.o _) hm ?_;clear hm;intro w1 hm
     |with_reducible refine cA (t:=22) ?_;(refine A8 rfl (Am rfl HE.o rfl rfl rfl hlt) ?_)
     |with_reducible refine bh (t:=5) ?_;(refine A8 rfl (AU rfl rfl FV (HA.o _ _ _ hm)) ?_)
     |with_reducible refine aM 137 0 hm ?_
     |with_reducible (first|refine ws 137 0 hm ?_|refine ws 137 1 hm ?_);clear hm;intro w hm
      )
    go_roundw
    case rel=>exact⟨k+1,⟨a2,V2,M2⟩,FP,by go_num,HN.o.2,HN.o.1,hm.dropRow⟩
    case measure=>simp[intOf];omega
  |done n=>
    have HN:Hid (b8 ⟨0,0,0⟩ l=.ok (n,l.drop (k+1))):=HR;clear HR hok ht;simp only[HR.val,HT.v]at CN
    go_upto_region 9 with(first
     |with_reducible refine wa 137 hm Nc ?_;clear hm;intro w g8 hm
     |go_at_call 98;refine cB (CN.o _) hm ?_;clear hm;intro w1 hm
     |with_reducible refine cA (t:=22) ?_;(refine A8 rfl (Am rfl HE.o rfl rfl rfl hlt) ?_)
     |with_reducible refine bh (t:=5) ?_;(refine A8 rfl (AU rfl rfl FV (HA.o _ _ _ hm)) ?_)
     |(with_reducible first|refine aM 137 0 hm ?_|refine ws 137 0 hm ?_;clear hm;intro w hm)
      )
    refine rO hm 8 (.am [(0,false),(1,true),(2,false),(3,false),(4,false),(5,false),(6,false)] (.one 7 (.brk 8 11 (.am [(9,false),(10,false)] .done)))) ?_;clear hm;intro w hm;simp only[KT.am];refine kq ?_;refine km (λW hm=>ld 0 hm rfl rfl rfl (ot rfl) rfl) ?_
    refine bj rfl rfl (λW=>a1a rfl rfl) ?_
    try simp only[Act.put,s3]
    iterate 2 refine kq ?_
    refine bj rfl rfl (λW=>by go_simp;((rw[aZ _ FP];done))) ?_
    try simp only[Act.put,s3]
    refine bj rfl rfl (λW=>ew (l:=k+1) (h:=l.length) rfl HE.o rfl (.inr ⟨_,rfl⟩) (.inl ⟨rfl,rfl⟩) hk1 hlc) ?_
    try simp only[Act.put,s3]
    refine DJ rfl rfl (λK hK=>?_);go_simp;refine(CC.o _ _ _ _ hm).mono ?_;rintro e w1⟨X,v2,rfl,hX,hm⟩;refine hK _ _ ⟨λW=>Own _ W _ _,λ_ h=>h.QN,hm,?_⟩;clear hK K
    refine Em rfl rfl (Aw 2 hm rfl rfl (Ac rfl) rfl rK rfl Y5 ?_)
    clear hm;intro w hm
    try simp only[puts,s2,List.set,List.eraseIdx,s3]at hm
    refine⟨λW=>Own _ W _ _,hm,?_⟩
    try simp only[Act.put,s3]
    iterate 2 refine kq ?_
    refine Ba ?_;go_simp;go_wp2;refine aD (Ae rfl rfl (hm.row 2 rfl) rK) rfl ?_;rw[HN.o];exact⟨X,v2,rfl,hX,hm.dropRow.dropRow.dropRow⟩
  |bad e=>
    have HN:Hid (b8 ⟨0,0,0⟩ l=.error e/\e≠0):=aa ⟨HR.o,by rcases hok with h|h|h<;>omega⟩;have q1:(e !=0)=true:=by simpa using HN.o.2
    clear HR hok ht CC;simp only[HR.val,HT.v]at CN
    go_wp2_with(first
     |with_reducible refine wa 137 hm Nc ?_;clear hm;intro w g8 hm
     |go_at_call 98;refine cB (CN.o _) hm ?_;clear hm;intro w1 hm
     |with_reducible refine cA (t:=22) ?_;(refine A8 rfl (Am rfl HE.o rfl rfl rfl hlt) ?_)
     |with_reducible refine bh (t:=5) ?_;(refine A8 rfl (AU rfl rfl FV (HA.o _ _ _ hm)) ?_)
     |(with_reducible first|refine aM 137 0 hm ?_|refine ws 137 0 hm ?_;clear hm;intro w hm|refine aM 80 2 hm ?_|refine ws 80 2 hm ?_;clear hm;intro w hm))
    refine aD (Ae rfl rfl (hm.row 2 rfl) rK) rfl ?_;rw[HN.o.1];exact⟨HN.o.2,rfl,hm.dropRow.dropRow.dropRow⟩
  .obtain rfl:l.length=k:=FP
   rw[qC,b8]at hR;have HRR:=aa hR;clear hR
   go_wp2_with(first
    |(with_reducible first|refine aM 80 1 hm ?_|refine ws 80 1 hm ?_;clear hm;intro w hm))
   refine aD (Ae rfl rfl (hm.row 1 rfl) rK) rfl ?_;rw[HRR.o];exact⟨FU,rfl,hm.dropRow.dropRow⟩
end
section
variable{Q:Exit->aJ}{m:Int}{L T:ac}{l:bt}{ss:O1}{id:Nat}{a b c f:O9}{P:O8}{Y rs:ae}{w w0:FC}{S:OE}
def Fq{α:Type}(Y Z R:List α):(Z++(Y++R)).Perm (Y++(Z++R)):=rg
def Own.zh{d:O9}{X:ae}(h:Own w0 w (Y++(a::b::c::d::(X++rs))) ss):Own w0 w (a::b::c::d::(X++(Y++rs))) ss:=h.perm (by
 have e:=Fq Y ([a,b,c,d]++X) rs
 simpa only[s2,aI]using e)
def gE.A1s{d:O9}{X:ae}{v:NY}(h:gE Y v (vs .u8 T))(hm:Own w0 w (a::b::c::d::f::(X++(Y++rs))) ss):From 1 w v T.length (vs .u8 T):=by
 have e:=Fq Y ([a,b,c,d,f]++X) rs;simp only[s2,aI]at e;have h3:=From.tK (h.src (hm.perm e.symm));rwa[Ai]at h3
def Pg(X E rs:ae):rs.Sublist (a::b::c::(X++(E++rs))):=((((bG E rs).trans (bG X _)).cons c).cons b).cons a
def Wb{a:OA}(hO:Own w0 w rs ss)(hS:∀W,Own w0 W rs ss->S W)(k:Nat)(t:KT)(hm:P.follows .mixedOrders=true)(hs:Region.noSelect l.toArray=true)(hlen:t.depth=l.toArray.size)
  (hB:(!(Array.replicate l.toArray.size false).getD k false&&eL l.toArray k (Qv l.toArray k) (Array.replicate l.toArray.size false) t)=true)(hQ:∀c a d v w,Q (.panic c) (a.put d v) w->Q (.panic c) a w)
  (h:∀w',Own w0 w' rs ss->bX P l.toArray Q t S a w'):(Code.region id l.toArray true).wp P Q a w:=
 Kv k t S hm hs hlen hB hQ (hS _ (hO.drawn _)) (h _ (hO.drawn _))
def GC(b:DS)(s:Int)(h:(FY b s).2.2.2=0):((FY b s).2.1.length:Int)+(FY b s).1.left=b.left/\0<=(FY b s).1.left/\((FY b s).2.2.1=true->(FY b s).1.left=0):=LA
def a1i{d:O9}(X Y E rs:ae):rs.Sublist (d::f::a::b::c::(X++(Y++(E++rs)))):=((((((bG E rs).trans (bG Y _)).trans (bG X _)).cons c).cons b).cons a).cons f|>.cons d
def a1q{d:O9}(X Y E rs:ae):(X++rs).Sublist (d::f::a::b::c::(X++(Y++(E++rs)))):=(((((jF (aY X) ((bG E rs).trans (bG Y _))).cons c).cons b).cons a).cons f).cons d
def kL(w0:FC)(o:Except Int (ac×Nat))(rs:ae)(ss:O1)(x:Ending)(w':FC):Prop:=match o with
|.error e=>e≠0/\x=.returned (.tuple #[.slice none 0 0,.int .i64 0,.int .i64 e])/\Own w0 w' rs ss
|.ok (last,many)=>∃X v,x=.returned (.tuple #[v,.int .i64 many,.int .i64 0])/\Lies 1 X v last.length (vs .u8 last)/\Own w0 w' (X++rs) ss
def fA(m1:1<=m)(m2:m<=65536)(hL:L.length=258)(hLb:Bytes L)(hLk:JL L=true){v:NY}(l:ac)(hm:Own w0 w rs ss)(hv:∀W,Own w0 W rs ss->In .i64 W v l)(hb:Bin l)(hn:l.length<=10000):ak 104 #[.int .i64 m,.agg (J .u8 L),v] w (kL w0 (Dt L 0 0 (dNew m) l [] 0) rs ss):=by
 obtain⟨ad,cp,rfl,_⟩:=hv w hm
 have HC:Hid (∀W,Own w0 W rs ss->∀k,k<l.length->∃A,ad=some A/\W.cell? (A.add k)=some (.int .i64 (gi l k))):=λW h k hk=>by
  exact nv
 obtain⟨i3,hE⟩:=nR;have HE:=aa hE;obtain⟨i4,hE4⟩:=nP;have HEM:=aa hE4;have HB:=aa hb;have HL:=aa hL;have HP:=aa (Uk.zero hL hLb hLk);have CN:=aa (λw=>Yh hL hLb hLk w);have CM:=aa (λw=>Zx m w);have HV2:=aa (zM m1 m2);have HV:=HV2;have HM:Hid ((dNew m).left=m):=aa (by rw[Oi FP FP]);clear hE hE4 hb hv hL hLb hLk;go_enter func104,ntmps104
 go_wp2_with((with_reducible refine wb hm ?_;clear hm;intro w g4 hm))
 go_step3
 go_wp2_with(first
  |(with_reducible first|refine wa 143 hm QA ?_;clear hm;intro w g9 hm|refine wa 147 hm Dc ?_;clear hm;intro w g11 hm)
  |go_at_call 127;refine cB (CN.o _) hm ?_;clear hm;intro w1 hm
  |go_at_call 128;refine cB (CM.o _) hm ?_;clear hm;intro w1 hm
  |(with_reducible first|refine aM 139 0 hm ?_ (ht:=al (F5 HL.o))|refine ws 143 0 hm ?_ (ht:=al (DT HL.o)) (hs:=al (jN HL.o Az)) (h1:=al Eb);clear hm;intro w hm|refine ws 147 0 hm ?_ (ht:=al (BJ HV.o.len)) (hs:=al (BR HV.o.len BF)) (h1:=al ep);clear hm;intro w hm))
 go_step3
 go_wp2
 try simp only[Act.put,s3]
 go_loopw[6,7] (λu z wr=>∃(k:Nat)(q:Int)(i:Nat)(b:DS)(out:ac)(X E:ae),k<=l.length/\z=.int .i64 k/\Uk L q i/\Vl b.l/\(out.length:Int)+b.left=m/\0<=b.left/\Lies 1 X u out.length (vs .u8 out)/\Dt L 0 0 (dNew m) l [] 0=Dt L q i b (l.drop k) out k/\Own w0 wr ((g11,V b)::(g9,CS L q i)::(g4,J .u8 L)::(X++(E++rs))) ss) (λ_ z _=>l.length-(intOf z).toNat)
 case atStart=>exact⟨0,0,0,dNew m,[],[],[],FP,rfl,HP.o,HV.o,by simpa using HM.o,by rw[HM.o];omega,Lies.nil 1,rfl,hm⟩
 case round=>
  clear hm HV HV2;obtain⟨k,q,i,b,out,X,E,hk,rfl,hP,hV,hO,hO0,hX,hR,hm⟩:=hrel;by_cases hlt:k<l.length
  .obtain⟨A,rfl,hA0⟩:=HC.o _ (hm.sub (Pg X E rs) (aY _)) k hlt
   have HA:Hid (∀W{a b c:O9},Own w0 W (a::b::c::(X++(E++rs))) ss->W.cell? (A.add k)=some (.int .i64 (gi l k))):=λW a b c h=>by
    obtain⟨A2,he,h2⟩:=HC.o _ (h.sub (Pg X E rs) (aY _)) k hlt;cases he;exact h2
   have hs:=HB.o.gi k hlt;rw[jg hlt,<-BZ l k hlt,Dt]at hR;have CF:=aa (λw=>O' (gi l k) hP hs.1 hs.2 w);have HP2:=aa (hP.next hs.1 hs.2);have CE:=aa (λw=>VJ (aR L q i (gi l k)).2.2.1 w hV.len hV.bytes);have HV:=aa hV;have HV2:=aa (Xu hV (aR L q i (gi l k)).2.2.1);have hT:=ZB b (aR L q i (gi l k)).2.2.1;have HD:=aa (GC b (aR L q i (gi l k)).2.2.1);have HX:=aa hX;obtain⟨ad3,c3,rfl⟩:=hX.shape;have w3:IntKind.i64.wrap ((k:Int)+1)=((k+1:Nat):Int):=by rw[aZ _ FP];push_cast;rfl
   clear hA0 hs hP hV hX;generalize gi l k=x at*;generalize aR L q i x=f at*;obtain⟨q2,i2,sy,dn⟩:=f;generalize FY b sy=d at*;obtain⟨d1,T,fin,e⟩:=d
   go_upto_region 4 with fail
   refine rO hm 14 (.am [(0,true),(1,false),(2,false),(3,false),(4,true)] (.two 5 (.am [(6,false),(7,false),(8,false),(9,false)] (.one 10 (.one 11 (.am [(12,false),(13,false)] .done)))) 10 (.one 5 (.am [(6,false),(7,false),(8,false),(9,false)] (.one 11 (.am [(12,false),(13,false)] .done)))))) ?_;clear hm;intro w hm;simp only[KT.am];refine km (λW hm=>eK 1 hm rfl rfl rfl (DT HL.o)) ?_
   iterate 2 refine kq ?_
   refine bj rfl rfl (λW=>Am rfl HE.o rfl rfl rfl hlt) ?_
   try simp only[Act.put,s3]
   refine km (λW hm=>AU rfl rfl DR (HA.o _ hm)) ?_;refine au ?_ ?_
   .refine DJ rfl rfl (λK hK=>?_);go_simp;refine cB (CF.o _) hm ?_;clear hm;intro w1 hm;refine hK _ _ ⟨λW=>Own _ W _ _,λ_ h=>h,J7,?_⟩;clear hK K
    try simp only[Act.put,s3]
    iterate 4 refine kq ?_
    refine Bo rfl rfl (Dl hm rfl QA ?_)
    clear hm;intro w g12 hm;refine⟨λW=>Own _ W _ _,λ_ h=>h,hm.dropRow,?_⟩
    try simp only[Act.put,s3]
    refine Bo rfl rfl (Aw 0 hm rfl rfl (Ac rfl) rfl (DT HL.o) (jN HL.o Az) Eb ?_)
    clear hm;intro w hm
    try simp only[puts,s2,List.set,List.eraseIdx,s3]at hm
    refine⟨λW=>Own _ W _ _,λ_ h=>h,hm.dropRow,?_⟩
    try simp only[Act.put,s3]
    iterate 2 refine kq ?_
    refine Ba ?_;go_simp;cases dn with
   |false=>
     exact GT
   |true=>
     exact Fo
   ·(refine Bo rfl rfl (Dl hm rfl QA ?_))
    clear hm;intro w g12 hm;refine⟨λW=>Own _ W _ _,λ_ h=>h,hm.dropRow,?_⟩
    try simp only[Act.put,s3]
    refine DJ rfl rfl (λK hK=>?_);go_simp;refine cB (CF.o _) hm ?_;clear hm;intro w1 hm;refine hK _ _ ⟨λW=>Own _ W _ _,λ_ h=>h,Jc,?_⟩;clear hK K
    try simp only[Act.put,s3]
    iterate 4 refine kq ?_
    refine Bo rfl rfl (Aw 0 hm rfl rfl (Ac rfl) rfl (DT HL.o) (jN HL.o Az) Eb ?_)
    clear hm;intro w hm
    try simp only[puts,s2,List.set,List.eraseIdx,s3]at hm
    refine⟨λW=>Own _ W _ _,λ_ h=>h,hm.dropRow,?_⟩
    try simp only[Act.put,s3]
    iterate 2 refine kq ?_
    refine Ba ?_;go_simp;cases dn with
   |false=>
     exact GT
   |true=>
     exact Fo
  .obtain rfl:l.length=k:=FP
   rw[qC,Dt]at hR;have HRR:=aa hR;clear hR;go_wp2
   try rw[DL]
   refine aD (fO rfl _ _ _) rfl ?_;rw[HRR.o];exact⟨FU,rfl,hm.sub (Pg X E rs) (aY _)⟩
end
section
variable{cs:ai}{en:Bool}{bit bud live md peak used:Int}{ss:O1}{fn fr fs ft fv ga gd gr gw t:Nat}{a b c:O9}{rs:ae}{bv pp sv:NY}{w w0:FC}
def PP(m p q came:Int)(st told all e:Int)(hm:Own w0 w ((gd,DRw bud md (.pointer ga) (.pointer gr) pp sv m p q came bv st told all e)::rs) ss):ak 43 #[gd] w (RW w (.int .u8 md)):=by
 go_enter func43,ntmps43
 exact po
def Zr(m p q came:Int)(v:NY)(st told all e:Int)(hm:Own w0 w ((gd,DRw bud md (.pointer ga) (.pointer gr) pp sv m p q came bv st told all e)::(ga,AR v live peak)::rs) ss):ak 44 #[gd] w (RW w (.int .i64 peak)):=by
 go_enter func44,ntmps44
 go_wp2_with(first
 |go_at_call 97;refine MW (Lb (hm.row 1 rfl)) ?_
 |refine UV ?_;try(clear hm;intro w gp hm))
 exact eA
def Y9(m p q came:Int)(st told all e:Int){v:NY}(hm:Own w0 w ((gd,DRw bud md (.pointer ga) (.pointer gr) pp sv m p q came (.nilIface) st told all e)::(gr,RD v bit used en)::rs) ss)(s0:0<=st)(s1:st<=1000000000000000000)(u0:0<=used)(u1:used<=100000000):ak 41 #[gd] w (RO (.int .i64 (st+used)) w0 ((gd,DRw bud md (.pointer ga) (.pointer gr) pp sv m p q came (.nilIface) st told all e)::(gr,RD v bit used en)::rs) ss):=by
 have w1:IntKind.i64.wrap (st+used)=st+used:=av;go_enter func41,ntmps41
 go_upto_region 3 with(first
  |with_reducible refine wl 104 0 hm ?_)
 refine rO hm 11 (.am [(0,false),(1,false),(2,false),(3,true),(4,false),(5,false),(6,false),(7,true)] (.one 8 (.am [(9,false),(10,false)] .done))) ?_;clear hm;intro w hm;simp only[KT.am]
 iterate 3 refine kq ?_
 refine km (λW hm=>ld 0 hm rfl rfl rfl (ot rfl) rfl) ?_
 iterate 3 refine kq ?_
 refine km (λW hm=>ld 0 hm rfl rfl rfl (ot rfl) rfl) ?_;refine DJ rfl rfl (λK hK=>?_);go_simp;refine(BY (hm.perm (fM _ _ _))).mono ?_;rintro e w1⟨rfl,hm2⟩;replace hm:=hm2.perm (fM _ _ _).symm;clear hm2;refine hK _ _ ⟨λW=>Own _ W _ _,λ_ h=>h,hm,?_⟩;clear hK K
 try simp only[Act.put,s3]
 refine bj rfl rfl (λW=>by go_simp;(first|rw[aZ _ FP];done|rw[aZ _ FP];rfl|rfl)) ?_
 try simp only[Act.put,s3]
 refine kq ?_;refine Ba ?_;go_simp
 go_wp2_with(first
  |with_reducible refine wl 104 0 hm ?_)
 exact gR
def IT:(a::b::c::rs).Perm (c::a::b::rs):=(fM c b rs).cons a|>.trans (fM c a (b::rs))
def X5(hk:kx t fv fn fr fs ft)(ws:Int)(m p q came:Int)(st told all e:Int){v:NY}(hm:Own w0 w ((gd,DRw bud md (.pointer ga) (.pointer gr) pp sv m p q came (.iface t (.pointer gw)) st told all e)::(gw,cs)::(gr,RD v bit used en)::rs) ss)(CS:Hid (∀W f R,Own w0 W (f::(gw,cs)::R) ss->ak fs #[gw] W (RW W (.int .i64 ws))))(s0:0<=st)(s1:st<=1000000000000000000)(u0:0<=used)(u1:used<=100000000)(x0:0<=ws)(x1:ws<=1000000000000000000):ak 41 #[gd] w (RO (.int .i64 (st+used+ws)) w0 ((gd,DRw bud md (.pointer ga) (.pointer gr) pp sv m p q came (.iface t (.pointer gw)) st told all e)::(gw,cs)::(gr,RD v bit used en)::rs) ss):=by
 have w1:IntKind.i64.wrap (st+used)=st+used:=av;have w2:IntKind.i64.wrap (st+used+ws)=st+used+ws:=av;have h_S:=λW=>(fy hk gw W).2.2.1;rcases hk with⟨rfl,rfl,rfl,rfl,rfl,rfl⟩|⟨rfl,rfl,rfl,rfl,rfl,rfl⟩
 all_goals
  go_enter func41,ntmps41
  go_upto_region 3 with(first
   |with_reducible refine wl 104 0 hm ?_)
  refine rO hm 11 (.am [(0,false),(1,false),(2,false),(3,true),(4,false),(5,false),(6,false),(7,true)] (.one 8 (.am [(9,false),(10,false)] .done))) ?_;clear hm;intro w hm;simp only[KT.am]
  iterate 3 refine kq ?_
  refine km (λW hm=>ld 0 hm rfl rfl rfl (ot rfl) rfl) ?_
  iterate 3 refine kq ?_
  refine km (λW hm=>ld 0 hm rfl rfl rfl (ot rfl) rfl) ?_;refine DJ rfl rfl (λK hK=>?_);go_simp;refine(BY (hm.perm IT.symm)).mono ?_;rintro e w1⟨rfl,hm2⟩;replace hm:=hm2.perm IT.symm.symm;clear hm2;refine hK _ _ ⟨λW=>Own _ W _ _,λ_ h=>h,hm,?_⟩;clear hK K
  try simp only[Act.put,s3]
  refine bj rfl rfl (λW=>by go_simp;(first|rw[aZ _ FP];done|rw[aZ _ FP];rfl|rfl)) ?_
  try simp only[Act.put,s3]
  refine kq ?_;refine Ba ?_;go_simp
  go_wp2_with(first
   |((first|go_at_call 312|go_at_call 315);refine MW (CS.o _ _ _ hm) ?_)
   |with_reducible refine wl 104 0 hm ?_)
  exact gR
end
section
variable{n:Int}{l:ac}{ss:O1}{a b:O9}{rs:ae}{w w0:FC}
def MR.st:MR->ai
|.block m p s=>MS 4 0 0 m p s 4
|.tail s=>MS 6 0 0 0 0 s 4
|_=>MS 0 0 0 0 0 0 0
def yN(w0:FC)(o:Except Int (MR×ac))(rs:ae)(ss:O1)(x:Ending)(w':FC):Prop:=match o with
|.error e=>e≠0/\x=.returned (.tuple #[.agg (MS 0 0 0 0 0 0 0),.slice none 0 0,.int .i64 e])/\Own w0 w' rs ss
|.ok (r,R)=>∃X v,x=.returned (.tuple #[.agg r.st,v,.int .i64 0])/\Lies 1 X v R.length (vs .u8 R)/\Own w0 w' (X++rs) ss
def Own.a0B{X:ae}(h:Own w0 w (X++(a::b::rs)) ss):Own w0 w (a::b::(X++rs)) ss:=h.perm (by
 have e:(X++([a,b]++rs)).Perm ([a,b]++(X++rs)):=by
  exact rg
 exact e.symm)
def Own.A1t{X:ae}(h:Own w0 w (a::b::(X++rs)) ss):Own w0 w (a::b::rs) ss:=h.sub (jw _ (jw _ (bG X rs))) (aY _)
def VB{v:NY}(n1:1<=n)(n2:n<=65536)(hm:Own w0 w rs ss)(hv:∀W,Own w0 W rs ss->cC .u8 W v l)(hb:Bytes l)(hn:l.length<=1000):ak 46 #[.int .i64 n,v] w (yN w0 (BO n .mark l) rs ss):=by
 obtain⟨ad,cp,rfl,hlc,_⟩:=hv w hm;have HI:Hid (∀W,Own w0 W rs ss->In .u8 W (.slice ad l.length cp) l):=λW h=>(hv W h).zu
 have HC:Hid (∀W,Own w0 W rs ss->∀k,k<l.length->∃A,ad=some A/\W.cell? (A.add k)=some (.int .u8 (gi l k))):=λW h k hk=>by
  exact Dm
 obtain⟨i3,hE⟩:=Md;have HE:=aa hE;have HB:=aa hb;have q0:wi n 1 65536=true:=by simp[wi,n1,n2]
 have CW:Hid (∀w,ak 100 #[.int .i64 n,.int .i64 1,.int .i64 65536] w (RW w (.bool true))):=λw=>by
  have h:=FX n 1 65536 w;rwa[q0]at h
 clear q0;clear hE hb hv;go_enter func46,ntmps46
 go_wp2_with(first
 |with_reducible refine wa 88 hm FM ?_;clear hm;intro w g4 hm
 |go_at_call 100;refine MW (CW.o _) ?_)
 go_loopw[18] (λu wr=>∃(k:Nat)(t:MT),k<=l.length/\u=.int .i64 k/\t.ok n/\BO n .mark l=BO n t (l.drop k)/\Own w0 wr ((g4,t.v)::rs) ss) (λu _=>l.length-(intOf u).toNat)
 case atStart=>exact⟨0,.mark,FP,rfl,trivial,rfl,hm⟩
 case round=>
  clear hm;obtain⟨k,t,hk,rfl,ht,hR,hm⟩:=hrel;by_cases hlt:k<l.length
  .obtain⟨A,rfl,hA0⟩:=HC.o _ hm.dropRow k hlt
   have HA:Hid (∀W(a:O9),Own w0 W (a::rs) ss->W.cell? (A.add k)=some (.int .u8 (gi l k))):=λW a h=>by
    obtain⟨A2,he,h2⟩:=HC.o _ h.dropRow k hlt;cases he;exact h2
   have CC:Hid (∀W(a b:O9),Own w0 W (a::b::rs) ss->ak 99 #[.slice (D8 (some A) cp (k+1)) (l.length-(k+1)) (cp-(k+1))] W λx w'=>∃X v,x=.returned v/\Lies 1 X v (l.drop (k+1)).length (vs .u8 (l.drop (k+1)))/\Own w0 w' (a::b::(X++rs)) ss):=λW a b h=>by
    refine(clone_any (l.drop (k+1)) (In.from (HI.o _ h.dropRow.dropRow) FP hlc) G8).mono λx w' hx=>?_;obtain⟨X,v,rfl,hX,hm⟩:=h.mL hx;exact⟨X,v,rfl,hX,hm.a0B⟩
   have hs:=HB.o (gi l k) JI;have hk1:k+1<=l.length:=hlt;rw[jg hlt,<-BZ l k hlt,BO]at hR;have CN:=aa (λw=>Vo n1 n2 ht (gi l k) hs.1 FP w);have hok:=MT.step_ok n1 n2 ht hs.1 (show gi l k<=255 by omega);have HR:=aa hR;clear hA0 hR hs;obtain⟨a,V,M,m,p,s,q,hv⟩:=MT.qK t;rw[hv]at hm CN;clear hv;generalize gi l k=x at*;generalize MT.step n x t=r at*;cases r with
  |go t2=>
    have hR:=HR.o;clear HR CC;have HN:Hid (BO n .mark l=BO n t2 (l.drop (k+1))/\t2.ok n):=aa ⟨hR,hok⟩;clear hR hok ht;obtain⟨a2,V2,M2,m2,p2,s2,k2,hv2⟩:=MT.qK t2;simp only[MR.val,hv2]at CN
    go_wp2_with(first
     |with_reducible refine wa 88 hm FM ?_;clear hm;intro w g9 hm
     |go_at_call 101;refine cB (CN.o _) hm ?_;clear hm;intro w1 hm
     |with_reducible refine cA (t:=22) ?_;(refine A8 rfl (Am rfl HE.o rfl rfl rfl hlt) ?_)
     |with_reducible refine bh (t:=5) ?_;(refine A8 rfl (AU rfl rfl FV (HA.o _ _ hm)) ?_)
     |with_reducible refine aM 88 0 hm ?_
     |with_reducible (first|refine ws 88 0 hm ?_|refine ws 88 1 hm ?_);clear hm;intro w hm
      )
    go_roundw
    case rel=>exact⟨k+1,t2,FP,by go_num,HN.o.2,HN.o.1,by rw[hv2];exact hm.dropRow⟩
    case measure=>simp[intOf];omega
  |block m2 p2 s2=>
    have HN:Hid (BO n .mark l=.ok (MR.block m2 p2 s2,l.drop (k+1))):=aa (by rw[HR.o]);exact De
  |tail s2=>
    have HN:Hid (BO n .mark l=.ok (MR.tail s2,l.drop (k+1))):=aa (by rw[HR.o]);exact De
  |bad=>
    have HN:Hid (BO n .mark l=.error 242):=HR;clear HR hok ht CC;simp only[MR.val]at CN
    go_wp2_with(first
     |with_reducible refine wa 88 hm FM ?_;clear hm;intro w g9 hm
     |go_at_call 101;refine cB (CN.o _) hm ?_;clear hm;intro w1 hm
     |with_reducible refine cA (t:=22) ?_;(refine A8 rfl (Am rfl HE.o rfl rfl rfl hlt) ?_)
     |with_reducible refine bh (t:=5) ?_;(refine A8 rfl (AU rfl rfl FV (HA.o _ _ hm)) ?_)
     |with_reducible refine aM 88 0 hm ?_
     |with_reducible (first|refine ws 88 0 hm ?_|refine ws 88 1 hm ?_);clear hm;intro w hm
     |with_reducible refine cS (t:=88) ?_;(refine A8 rfl (Ir rfl) ?_))
    refine aD (Ae rfl rfl (hm.row 1 rfl) Gt) rfl ?_;rw[HN.o];exact⟨FU,rfl,hm.dropRow.dropRow⟩
  .obtain rfl:l.length=k:=FP
   rw[qC,BO]at hR;have HRR:=aa hR;obtain⟨a,V,M,m,p,s,q,hv⟩:=MT.qK t;rw[hv]at hm;clear hR hv
   go_wp2_with(first
    |with_reducible refine cS (t:=88) ?_;(refine A8 rfl (Ir rfl) ?_)
    |with_reducible refine ws 88 0 hm ?_;clear hm;intro w hm)
   refine aD (Ae rfl rfl (hm.row 0 rfl) Gt) rfl ?_;rw[HRR.o];exact⟨FU,rfl,hm.dropRow⟩
end
def VP{L:ac}:∀(l:ac)(q:Int)(k:Nat)(b:DS)(out:ac)(a:Nat)(last:ac)(many:Nat),Dt L q k b l out a=.ok (last,many)->(last.length:Int)=out.length+b.left
|[],_,_,_,_,_,_,_,h=>by cases h
|x::r,q,k,b,out,a,last,many,h=>by
  rw[Dt]at h;have ih:=VP (L:=L) r;split at h
  .split at h
   .rename_i h0;have hd:=GC b _ h0;split at h
    .rename_i h1;have:=hd.2.2 h1;cases h;rw[aV];push_cast;omega
    .have h2:=ih _ _ _ _ _ _ _ h;rw[aV]at h2;push_cast at h2;omega
   .cases h
  .exact ih _ _ _ _ _ _ _ h
def wW{L l last:ac}{m:Int}{many:Nat}(m1:1<=m)(m2:m<=65536)(h:Dt L 0 0 (dNew m) l [] 0=.ok (last,many)):(last.length:Int)=m:=by
 have:=VP l 0 0 (dNew m) [] 0 last many h;rw[this,Oi FP FP];simp
def VO{L:ac}:∀(l:ac)(q:Int)(k:Nat)(b:DS)(out:ac)(a:Nat)(last:ac)(many:Nat),Dt L q k b l out a=.ok (last,many)->many<=a+l.length
|[],_,_,_,_,_,_,_,h=>by cases h
|x::r,q,k,b,out,a,last,many,h=>by
  rw[Dt]at h;have ih:=VO (L:=L) r;simp only[bD];split at h
  .split at h
   .split at h
    .cases h;omega
    .have:=ih _ _ _ _ _ _ _ h;omega
   .cases h
  .have:=ih _ _ _ _ _ _ _ h;omega
def xH(R:ac)(k:Nat):Bin (bitsOf R k):=by
 intro x hx;obtain⟨i,_,rfl⟩:=eX.1 hx;exact KY R i
def a1L{l:ac}(h:Bin l)(k:Nat):Bin (l.drop k):=λx hx=>h x (iw hx)
def ql{R:ac}{j:Nat}(hj:j<=8*R.length):(((bitsOf R (8*R.length)).take (8*((j+7)/8))).drop j).any (λy=>decide (y=1))=!zpad R j:=by
 have hl:(bitsOf R (8*R.length)).length=8*R.length:=Ny;have hu:8*((j+7)/8)<=8*R.length:=FP
 have hg:∀i,i<(((bitsOf R (8*R.length)).take (8*((j+7)/8))).drop j).length->gi (((bitsOf R (8*R.length)).take (8*((j+7)/8))).drop j) i=AP R (j+i):=by
  intro i hi;rw[BZ _ _ hi];simp[bitsOf]
 have hn:(((bitsOf R (8*R.length)).take (8*((j+7)/8))).drop j).length=8*((j+7)/8)-j:=by
  rw[dQ,fZ,hl];omega
 cases hz:zpad R j with
|true=>
  have h1:=iP.1 hz;refine Ua λi hi=>?_;have h2:=eF (h1 i (dS.2 FP));rw[hg i hi,h2];decide
|false=>
  rw[zpad,List.all_eq_false]at hz;obtain⟨i,hi,h1⟩:=hz;have hi:=dS.1 hi;have hb:=KY R (j+i);have h0:AP R (j+i)≠0:=by simpa using h1
  exact Wh (k:=i) FP (by rw[hg i FP];omega)
section
variable{k:Ob}{l:ac}{ss:O1}{xs:ar}{c i n:Nat}{a:O9}{ad:Ov}{A Z rs:ae}{w w0:FC}
def SL:∀(l:ac)(t:TT)(i:Int),t.ok->Bin l->(Bv t l i).2.2=0->(Bv t l i).1.length=258/\Bytes (Bv t l i).1/\JL (Bv t l i).1=true
|[],_,_,_,_,h=>by simp[Bv]at h
|b::r,t,i,ho,hb,h=>by
  have ih:=SL r;have h0:=hb b G5;rw[Bv]at h⊢;by_cases h1:(t.next b).2=true
  .rw[aQ h1]at h⊢;have hn:=ho.next h0.1 h0.2 h1;by_cases h2:(t.next b).1.s=258
   .rw[aQ h2];rcases hn with hn|hn
    .omega
    .exact hn.2
   .rw[aP h2]at h⊢;rcases hn with hn|hn
    .exact ih _ _ hn.2 (λx hx=>hb x (fB _ hx)) h
    .exact absurd hn.1 h2
  .rw[aP h1]at h;simp at h
def F3(w0:FC)(o:Except Int (ac×ac))(rs:ae)(ss:O1)(x:Ending)(w':FC):Prop:=match o with
|.error e=>e≠0/\x=.returned (.tuple #[.slice none 0 0,.slice none 0 0,.int .i64 e])/\Own w0 w' rs ss
|.ok (t,R)=>∃X Y v u,x=.returned (.tuple #[v,u,.int .i64 0])/\Lies 1 X v t.length (vs .u8 t)/\Lies 1 Y u R.length (vs .u8 R)/\Own w0 w' (X++(Y++rs)) ss
def Lies.ny{X:ae}{v:NY}(h:Lies 1 X v n (vs k l))(hm:Own w0 w (A++(X++rs)) ss):In k w v l:=h.gZ hm
def In.sub{W:FC}{j:Nat}(h:In k W (.slice ad l.length c) l)(hi:i<=j)(hj:j<=l.length)(hc:l.length<=c):In k W (.slice (D8 ad c i) (j-i) (c-i)) ((l.take j).drop i):=by
 obtain⟨ad2,c2,he,hl⟩:=h;cases he;have hn:((l.take j).drop i).length=j-i:=by rw[dQ,fZ];omega
 refine⟨D8 ad c i,c-i,by rw[hn],λq hq=>?_⟩;rw[hn]at hq;obtain⟨A,h2,h3⟩:=hl (i+q) FP;subst h2;refine⟨A.add i,by rw[D8,aP FP];rfl,?_⟩;rw[Addr.add_add,h3];rw[BZ _ _ FP,BZ _ _ (by rw[hn];exact hq)];simp
def Lies.Pe{X:ae}{v:NY}(h:Lies 1 X v n xs):∃ad c,v=.slice ad n c/\n<=c:=by
 by_cases hn:0<n
 .obtain⟨g,p,c,cells,_,rfl,hc,_⟩:=h.pos hn;exact⟨_,c,rfl,hc⟩
 .obtain⟨ad,c,rfl⟩:=h.shape;exact⟨ad,c,rfl,FP⟩
def Ph{n:Int}(n1:1<=n)(n2:n<=65536):∀(l:ac)(t:MT)(r:MR)(R:ac),t.ok n->Bytes l->BO n t l=.ok (r,R)->r.ok n/\Bytes R/\R.length<l.length
|[],_,_,_,_,_,h=>by cases h
|x::l,t,r,R,ht,hb,h=>by
  have h0:=hb x G5;have hok:=MT.step_ok n1 n2 ht h0.1 (show x<=255 by omega);have hb2:Bytes l:=λy hy=>hb y (fB _ hy);rw[BO]at h;cases hr:MT.step n x t with
 |go t2=>
   rw[hr]at h hok;have:=Ph n1 n2 l t2 r R hok hb2 h;exact⟨this.1,this.2.1,by simp;omega⟩
 |block m p s=>rw[hr]at h hok;cases h;exact⟨hok,hb2,G5⟩
 |tail s=>rw[hr]at h hok;cases h;exact⟨hok,hb2,G5⟩
 |bad=>rw[hr]at h;cases h
def Own.Cq(h:Own w0 w (Z++(a::rs)) ss):Own w0 w (a::(Z++rs)) ss:=h.perm (Fq Z [a] rs)
end
def Zw{b:DS}(h:Vl b.l)(s:Int):Bytes (FY b s).2.1:=by
 have hr:Bytes b.rep:=λx hx=>by
  obtain⟨_,rfl⟩:=List.mem_replicate.1 hx;exact h.bytes.gi 0 (by rw[h.len];decide)
 have hn:Bytes []:=λx hx=>by cases hx
 rw[FY];split
 .split
  .rw [G9];split
   .exact hn
   .split
    .exact hr
    .split
     .exact hn
     .intro x hx;rcases dG.1 hx with hx|hx
      .exact hr x hx
      .obtain rfl:x=takeC b.l (s-1):=by simpa using hx
       exact XT h
  .exact hn
 .exact hn
def a1x{a b:ac}(ha:Bytes a)(hb:Bytes b):Bytes (a++b):=λx hx=>by
 rcases dG.1 hx with hx|hx
 .exact ha x hx
 .exact hb x hx
def TU{L:ac}:∀(l:ac)(q:Int)(k:Nat)(b:DS)(out:ac)(a:Nat)(last:ac)(many:Nat),Vl b.l->Bytes out->Dt L q k b l out a=.ok (last,many)->Bytes last
|[],_,_,_,_,_,_,_,_,_,h=>by cases h
|x::r,q,k,b,out,a,last,many,hv,ho,h=>by
  rw[Dt]at h;have ih:=TU (L:=L) r;have hb:=a1x ho (Zw hv (aR L q k x).2.2.1);split at h
  .split at h
   .split at h
    .cases h;exact hb
    .exact ih _ _ _ _ _ _ _ (Xu hv _) hb h
   .cases h
  .exact ih _ _ _ _ _ _ _ hv ho h
section
variable{m n p s:Int}{R l out t:ac}{ss:O1}{g:Nat}{a b:O9}{T Y Z rs:ae}{u:NY}{w w0:FC}
def SQ:∀(l:ac)(t:TT)(i:Int),t.ok->Bin l->(Bv t l i).1.length=258
|[],_,_,_,_=>Az
|b::r,t,i,ho,hb=>by
  have ih:=SQ r;have h0:=hb b G5;rw[Bv];by_cases h1:(t.next b).2=true
  .rw[aQ h1];have hn:=ho.next h0.1 h0.2 h1;by_cases h2:(t.next b).1.s=258
   .rw[aQ h2];rcases hn with hn|hn
    .omega
    .exact hn.2.1
   .rw[aP h2];rcases hn with hn|hn
    .exact ih _ _ hn.2 (λx hx=>hb x (fB _ hx))
    .exact absurd hn.1 h2
  .rw[aP h1];exact Az
def xw(h:eC out p.toNat out.length 0 []=none):chk out p s=.error 170:=by rw[chk,h]
def xu(h:eC out p.toNat out.length 0 []=some t):chk out p s=if crc 0 [t.reverse]=s then .ok t.reverse else .error 250:=by rw[chk,h]
def Own.re1{X:ae}(h:Own w0 w (Y++(a::b::(Z++(X++rs)))) ss):Own w0 w (b::(Z++(Y++(X++rs)))) ss:=(h.perm (by
 have e:=Fq Y ([a,b]++Z) (X++rs)
 simpa only[s2,aI]using e):Own w0 w (a::b::(Z++(Y++(X++rs)))) ss).dropRow
def Own.re2{X:ae}(h:Own w0 w (T++(a::b::(Z++(Y++(X++rs))))) ss):Own w0 w (b::(T++(X++rs))) ss:=(h.perm (Fq T [a,b] (Z++(Y++(X++rs)))):Own w0 w (a::b::(T++(Z++(Y++(X++rs))))) ss).sub (((jF (aY T) ((bG Y _).trans (bG Z _))).cons_cons b).cons a) (aY _)
def Own.re3{X V:ae}(h:Own w0 w (V++(a::b::(T++(X++rs)))) ss):Own w0 w (T++(V++rs)) ss:=(h.perm (by
 have e:=Fq V ([a,b]++T) (X++rs)
 simpa only[s2,aI]using e):Own w0 w (a::b::(T++(V++(X++rs)))) ss).sub (((jF (aY T) (jF (aY V) (bG X rs))).cons b).cons a) (aY _)
def j8.By(h:Own w0 w ((g,#[u])::rs) ss)(hu:In .u8 w u l):j8 w (.slice g 1 1) [l]:=by
 refine⟨_,_,rfl,λi hi=>⟨_,u,rfl,?_,?_⟩⟩
 .obtain rfl:i=0:=by simpa using hi
  exact Iz (h.row 0 rfl) 0 rfl
 .obtain rfl:i=0:=by simpa using hi
  exact hu
def aN{v:NY}(n1:1<=n)(n2:n<=65536)(hR:BO n .mark l=.ok (.block m p s,R))(hm:Own w0 w rs ss)(hv:∀W,Own w0 W rs ss->cC .u8 W v l)(hb:Bytes l)(hn:l.length<=1000):ak 47 #[.int .i64 n,v] w (F3 w0 (Ik m p s R) rs ss):=by
 obtain⟨hok,hRB,hRl⟩:=Ph n1 n2 l .mark _ R trivial hb hR;obtain⟨pn,rfl⟩:∃k:Nat,p=k:=⟨p.toNat,by have:=hok;simp only[MR.ok]at this;omega⟩
 have C46:Hid (∀W,Own w0 W rs ss->ak 46 #[.int .i64 n,v] W λx w'=>∃X v,x=.returned (.tuple #[.agg (MS 4 0 0 m pn s 4),v,.int .i64 0])/\Lies 1 X v R.length (vs .u8 R)/\Own w0 w' (X++rs) ss):=λW h=>by
  have h2:=VB n1 n2 h hv hb hn;rw[hR]at h2;exact h2
 have C102:Hid (∀W(g:O9)X v2,Lies 1 X v2 R.length (vs .u8 R)->Own w0 W (g::(X++rs)) ss->ak 102 #[v2] W (kE w0 (bitsOf R (8*R.length)) (g::(X++rs)) ss)):=λW g X v2 hX h=>fJ h (λW h=>hX.gZ (A:=[g]) h) hRB FP;have hlen:(bitsOf R (8*R.length)).length=8*R.length:=Ny;have hbin:=xH R (8*R.length)
 have hG:Ik m pn s R=if(Bv bz (bitsOf R (8*R.length)) 0).2.2=0 then
  match Dt (Bv bz (bitsOf R (8*R.length)) 0).1 0 0 (dNew m) ((bitsOf R (8*R.length)).drop (Bv bz (bitsOf R (8*R.length)) 0).2.1.toNat) [] 0 with
 |.error e=>.error e
 |.ok (last,many)=>if zpad R ((Bv bz (bitsOf R (8*R.length)) 0).2.1.toNat+many)then
    (match chk last pn s with
   |.error e=>.error e
   |.ok t=>.ok (t,R.drop (((Bv bz (bitsOf R (8*R.length)) 0).2.1.toNat+many+7)/8)))
   else .error 160
 else .error (Bv bz (bitsOf R (8*R.length)) 0).2.2:=rfl
 have hZP:=λj(hj:j<=8*R.length)=>ql (R:=R) hj;have htab:=SL (bitsOf R (8*R.length)) bz 0 XK hbin;have hfirst:=Nw (bitsOf R (8*R.length)) bz 0;have HG:=aa hG;have HRL:=aa hRl;have HZP:=aa hZP;have HBI:=aa hbin;clear hZP;have hbl:(bitsOf R (8*R.length)).length<=10000:=by rw[hlen];omega
 clear hG hb hv hR hRl;generalize bitsOf R (8*R.length)=bits at*;have C103:Hid (∀W(g:O9)X Z v2,Lies 1 Z v2 bits.length (vs .i64 bits)->Own w0 W (g::(Z++(X++rs))) ss->ak 103 #[v2] W (RB W (.tuple #[.agg (J .u8 (Bv bz bits 0).1),.int .i64 (Bv bz bits 0).2.1,.int .i64 (Bv bz bits 0).2.2]))):=λW g X Z v2 hZ h=>a1b (hZ.gZ (A:=[g]) h) hbin FP;have HBL:=aa hbl;clear hbl;have hLL:=SQ bits bz 0 XK hbin;have HL:=aa hLL;have HTB:=aa htab;have HFI:=aa hfirst;clear htab hfirst hLL;generalize Bv bz bits 0=tb at*;obtain⟨L,first,e⟩:=tb;by_cases he:e=0
 .subst he;have hf:0<first/\first<=0+bits.length:=HFI.o rfl
  have htb:L.length=258/\Bytes L/\JL L=true:=HTB.o rfl;obtain⟨f,rfl⟩:∃f:Nat,first=(f:Int):=⟨first.toNat,FP⟩
  have hfl:f<=bits.length:=FP
  have hf0:0<f:=FP
  obtain⟨i3,hE⟩:=nR;have HE:=aa hE;have HLEN:=aa hlen;have HB2:Hid (Bin (bits.drop f)):=aa (a1L hbin f);clear hlen hbin hf HTB HFI hE;obtain⟨hL1,hL2,hL3⟩:=htb;have HTL:=aa hL2;have HTK:=aa hL3;clear hL1 hL2 hL3;obtain⟨hm1,hm2⟩:1<=m/\m<=65536:=⟨by have:=hok;simp only[MR.ok]at this;omega,by have:=hok;simp only[MR.ok]at this;omega⟩
  have CC:Hid (∀W X Z adZ cZ(a b:O9),bits.length<=cZ->Lies 1 Z (.slice adZ bits.length cZ) bits.length (vs .i64 bits)->Own w0 W (a::b::(Z++(X++rs))) ss->ak 104 #[.int .i64 m,.agg (J .u8 L),.slice (D8 adZ cZ f) (bits.length-f) (cZ-f)] W (kL w0 (Dt L 0 0 (dNew m) (bits.drop f) [] 0) (a::b::(Z++(X++rs))) ss)):=λW X Z adZ cZ a b hc hZ h=>fA hm1 hm2 HL.o HTL.o HTK.o (bits.drop f) h (λW h=>by
   have:=(hZ.ny (A:=[a,b]) h).sub (i:=f) (j:=bits.length) hfl FP hc
   rwa[gY]at this) HB2.o (by rw[dQ];have:=HBL.o;omega)
  have HCM:=aa (λlast many=>wW (L:=L) (l:=bits.drop f) (last:=last) (many:=many) hm1 hm2);have HCN:=aa (λlast many=>VO (L:=L) (bits.drop f) 0 0 (dNew m) [] 0 last many);have HCB:=aa (λlast many=>TU (L:=L) (bits.drop f) 0 0 (dNew m) [] 0 last many (zM hm1 hm2) (λx hx=>by cases hx))
  have hO:(if(0:Int)=0 then
   match Dt L 0 0 (dNew m) (bits.drop (f:Int).toNat) [] 0 with
  |.error e=>.error e
  |.ok (last,many)=>if zpad R ((f:Int).toNat+many)then
     (match chk last pn s with
    |.error e=>.error e
    |.ok t=>.ok (t,R.drop (((f:Int).toNat+many+7)/8)))
    else .error 160
  else .error 0:Except Int (ac×ac))=match Dt L 0 0 (dNew m) (bits.drop f) [] 0 with
  |.error e=>.error e
  |.ok (last,many)=>if zpad R (f+many)then
     (match chk last pn s with
    |.error e=>.error e
    |.ok t=>.ok (t,R.drop ((f+many+7)/8)))
    else .error 160:=rfl
  have HG2:=aa (HG.o.trans hO);clear hO HG;generalize Ik m pn s R=res at*;generalize Dt L 0 0 (dNew m) (bits.drop f) [] 0=o at*;go_enter func47,ntmps47
  go_upto_region 10 with(first
   |(with_reducible first|refine wa 88 hm FM ?_;clear hm;intro w g7 hm|refine ws 88 0 hm ?_;clear hm;intro w hm)
   |(go_at_call 46;have _t:=hm;refine(C46.o _ hm).mono ?_;clear _t hm;rintro x w1⟨X,v2,rfl,hX,hm⟩;obtain⟨adX,cX,rfl,hcX⟩:=hX.Pe;have HX:=aa hX;clear hX)
   |with_reducible refine wl 3 0 hm ?_
   |(go_at_call 102;have _t:=hm;refine(C102.o _ _ _ _ HX.o hm).mono ?_;clear _t hm;rintro x w1⟨Z,vz,rfl,hZ,hm⟩;obtain⟨adZ,cZ,rfl,hcZ⟩:=hZ.Pe;have HZ:=aa hZ;clear hZ;replace hm:=hm.Cq)
   |(go_at_call 103;have _t:=C103.o _ _ _ _ _ HZ.o hm;refine _t.mono ?_;clear _t;rintro x w1⟨rfl,hb⟩;replace hm:=hm.call hb;clear hb)
   |(with_reducible first|refine wa 139 hm aC ?_;clear hm;intro w g9 hm|refine ws 139 0 hm ?_ (ht:=al (F5 HL.o)) (hs:=al (WC HL.o Az)) (h1:=al J_one);clear hm;intro w hm))
  refine rO hm 7 (.am [(0,false),(1,false),(2,true),(3,true),(4,false),(5,false),(6,false)] (.brk 7 15 (.am [(8,false),(9,false),(10,false),(11,false),(12,false),(13,false),(14,false)] .done))) ?_;clear hm;intro w hm;simp only[KT.am]
  iterate 2 refine kq ?_
  refine km (λW hm=>ld 1 hm rfl rfl rfl (ot rfl) rfl) ?_;refine km (λW hm=>eK 0 hm rfl rfl rfl (F5 HL.o)) ?_
  iterate 2 refine kq ?_
  refine bj rfl rfl (λW=>ew (l:=f) (h:=bits.length) rfl HE.o rfl (.inr ⟨_,rfl⟩) (.inl ⟨rfl,rfl⟩) hfl hcZ) ?_
  try simp only[Act.put,s3]
  refine PO rfl rfl (λK hK=>?_);go_simp;refine(CC.o _ _ _ _ _ _ _ hcZ HZ.o hm).mono ?_;intro x w1 hx;clear hm;cases o with
 |error e=>
   obtain⟨he,rfl,hm⟩:=hx;have q1:(e !=0)=true:=by simpa using he
   have HE0:=aa he;clear he;refine hK _ _ ⟨λW=>Own _ W _ _,hm,?_⟩;clear hK K
   iterate 7 refine kq ?_
   refine Ba ?_;go_simp;go_wp2;refine aD (fO rfl _ _ _) rfl ?_;rw[HG2.o];exact⟨HE0.o,rfl,hm.sub (((bG X rs).trans (bG Z _)).cons _|>.cons _) (aY _)⟩
 |ok o =>
   obtain⟨last,many⟩:=o;obtain⟨Y,vY,rfl,hY,hm⟩:=hx;replace hm:=hm.re1;obtain⟨adY,cY,rfl,hcY⟩:=hY.Pe;have HY:=aa hY;clear hY;refine hK _ _ ⟨λW=>Own _ W _ _,hm,?_⟩;clear hK K
   iterate 7 refine kq ?_
   refine Ba ?_;go_simp;have hmany:=HCN.o last many rfl;have hlast:=HCM.o last many rfl;rw[dQ]at hmany;have hl8:=HLEN.o;have hRp:0<R.length:=FP
   obtain⟨AX,rfl⟩:∃A,adX=some A:=by
    obtain⟨g,p,c,cells,_,he,_⟩:=HX.o.pos hRp;cases he;exact⟨_,rfl⟩
   obtain⟨j,hj⟩:∃j,j=f+many:=⟨_,rfl⟩;obtain⟨u,hu⟩:∃u,u=(j+7)/8:=⟨_,rfl⟩;have hju:j<=u*8:=FP
   have hub:u*8<=bits.length:=FP
   have huc:u*8<=cZ:=FP
   have huR:u<=R.length:=FP
   have hbl:=HBL.o;have hjb:j<=100000:=FP
   have hub8:u*8<=100000:=FP
   have HZPj:Hid (((bits.take (u*8)).drop j).any (λy=>decide (y=1))=!zpad R j):=aa (by rw[sO,hu];exact HZP.o j FP)
   have HG3:Hid (res=if zpad R j then(match chk last pn s with
    |.error e=>.error e
    |.ok t=>.ok (t,R.drop u))else .error 160):=aa (by rw[HG2.o,hu,hj])
   clear HG2;have hp:1<=pn/\(pn:Int)<=m:=by have:=hok;simp only[MR.ok]at this;omega
   have hpl:pn<=last.length:=FP
   have hl0:0<last.length:=FP
   have hlm:last.length<=65536:=FP
   have C105:Hid (∀W{a:O9},Own w0 W (a::(Z++(Y++(X++rs)))) ss->ak 105 #[.slice (D8 adZ cZ j) (u*8-j) (cZ-j),.int .i64 1] W (RB W (.bool (!zpad R j)))):=λW a h=>by
    have:=UZ ((HZ.o.ny (A:=[a]) h).sub (i:=j) (j:=u*8) hju hub hcZ) (by rw[dQ,fZ];omega);rwa[HZPj.o]at this
   have e2:Hid (((f:Int)+many+7)/8=(u:Int)):=aa FP;subst hj;have HJU:=aa hju;have HUC:=aa huc;have HUR:=aa huR;have HP:=aa hp;have HPL:=aa hpl;have HL0:=aa hl0;have HLB:=aa (HCB.o last many rfl);have HLM:=aa hlm;clear hmany hl8 hlast hu hju huc huR hp hpl hl0 hlm hub hbl hRp hfl hf0
   go_upto_region 14 with fail
   rw[e2.out];have C27:Hid (∀W{a:O9},Own w0 W (a::(Z++(Y++(X++rs)))) ss->ak 27 #[.slice adY last.length cY,.int .i64 pn] W (aB w0 (eC last pn last.length 0 []) last.length (a::(Z++(Y++(X++rs)))) ss)):=λW a h=>Agr h (λW h=>HY.o.ny (A:=a::Z) h) HLB.o HP.o.1 HPL.o (by have:=HLM.o;omega);have HGN:Hid (zpad R (f+many)=false->res=.error 160):=λh=>by rw[HG3.o,h];rfl
   have HGM:Hid (zpad R (f+many)=true->eC last pn last.length 0 []=none->res=.error 170):=λh h2=>by rw[HG3.o,h,xw (p:=pn) h2];rfl
   have HGS:Hid (zpad R (f+many)=true->∀t,eC last pn last.length 0 []=some t->res=if crc 0 [t.reverse]=s then .ok (t.reverse,R.drop u)else .error 250):=λh t h2=>by
    rw[HG3.o,h,xu (p:=pn) h2];by_cases hc:crc 0 [t.reverse]=s
    .rw[aQ hc,aQ hc];rfl
    .rw[aP hc,aP hc];rfl
   clear HG3 HZPj;generalize zpad R (f+many)=z at*;cases z with
  |false=>
    have HRN:=aa (HGN.o rfl);clear HGN HGM HGS
    go_wp2_with(first
     |go_at_call 105;refine cB (C105.o _ hm) hm ?_;clear hm;intro w1 hm
     |with_reducible refine t7 ?_;(refine A8 rfl (ew (l:=f+many) (h:=u*8) rfl HE.o rfl (.inr ⟨_,rfl⟩) (.inr ⟨_,rfl⟩) HJU.o HUC.o) ?_))
    exact Ok
  |true=>
    have HGM2:=aa (HGM.o rfl);have HGS2:=aa (HGS.o rfl);clear HGN HGM HGS;generalize eC last pn last.length 0 []=ob at*;cases ob with
   |none=>
     have HRN:=aa (HGM2.o rfl);clear HGM2 HGS2
     go_wp2_with(first
      |go_at_call 105;refine cB (C105.o _ hm) hm ?_;clear hm;intro w1 hm
      |with_reducible refine t7 ?_;(refine A8 rfl (ew (l:=f+many) (h:=u*8) rfl HE.o rfl (.inr ⟨_,rfl⟩) (.inr ⟨_,rfl⟩) HJU.o HUC.o) ?_)
      |with_reducible refine wl 3 0 hm ?_
      |go_at_call 27;refine MP (C27.o _ hm) ?_;clear hm;intro w1 hm)
     exact Ok
   |some t=>
     have HRS:=aa (HGS2.o t rfl);clear HGM2 HGS2;have C106:Hid (∀W(gT:Nat){a:O9},t.length=last.length->Own w0 W ((gT,J .u8 t)::a::(Z++(Y++(X++rs)))) ss->ak 106 #[.slice (some ⟨gT,0,none⟩) last.length last.length] W λx w'=>∃T v,x=.returned v/\Lies 1 T v t.length (vs .u8 t.reverse)/\Own w0 w' (a::(T++(X++rs))) ss):=λW gT a hT h=>(a00 h (λW h=>Src.io (h.row 0 rfl) 0 _ _ (vs .u8 t) (by rw[Ai,hT]) (λj u hu=>by rw[dA,J,jI];exact hu)) (by have:=HLM.o;omega) (by have:=HL0.o;omega)).mono λx w'⟨T,v,e,h1,h2⟩=>⟨T,v,e,h1,h2.re2⟩
     go_upto_region 20 with(first
      |go_at_call 105;refine cB (C105.o _ hm) hm ?_;clear hm;intro w1 hm
      |with_reducible refine t7 ?_;(refine A8 rfl (ew (l:=f+many) (h:=u*8) rfl HE.o rfl (.inr ⟨_,rfl⟩) (.inr ⟨_,rfl⟩) HJU.o HUC.o) ?_)
      |with_reducible refine wl 3 0 hm ?_
      |(go_at_call 27;have _t:=hm;refine(C27.o _ hm).mono ?_;clear _t hm;rintro x w1⟨gT,hTn,rfl,hm⟩;have HTN:=aa hTn;clear hTn)
      |(go_at_call 106;have _t:=hm;refine(C106.o _ _ HTN.o hm).mono ?_;clear _t hm;rintro x w1⟨T,vT,rfl,hT,hm⟩;obtain⟨adT,cT,rfl⟩:=hT.shape;have HT:=aa hT;clear hT))
     have CF:Hid (∀W(gq:Nat){a:O9},Own w0 W ((gq,#[.slice adT t.length cT])::a::(T++(X++rs))) ss->ak 48 #[.slice (some ⟨gq,0,none⟩) 1 1] W (RB W (.int .u32 (crc 0 [t.reverse])))):=λW gq a h=>jM [t.reverse] (j8.By h (HT.o.ny (A:=[(gq,#[.slice adT t.length cT]),a]) h)) (by
      intro p hp;obtain rfl:p=t.reverse:=by simpa using hp
      rw[rX,HTN.o];have:=HLM.o;omega) G5
     have C99:Hid (∀W{a b:O9},Own w0 W (a::b::(T++(X++rs))) ss->ak 99 #[.slice (D8 (some AX) cX u) (R.length-u) (cX-u)] W λx w'=>∃V v,x=.returned v/\Lies 1 V v (R.length-u) (vs .u8 (R.drop u))/\Own w0 w' (T++(V++rs)) ss):=λW a b h=>(clone_any (R.drop u) (In.from (HX.o.ny (A:=a::b::T) h) HUR.o hcX) (by rw[dQ];have:=HRL.o;omega)).mono λx w' hx=>by
      obtain⟨V,v,e,h1,h2⟩:=h.mL hx;rw[dQ]at h1;exact⟨V,v,e,h1,h2.re3⟩
     clear C105 C27 C106;obtain⟨i34,hE34⟩:=wO;have HE34:=aa hE34;obtain⟨i22,hE22⟩:=i8;have HE22:=aa hE22;clear hE34 hE22;generalize crc 0 [t.reverse]=c at*;refine rO hm 7 (.am [(0,false),(3,false),(4,false),(5,true)] (.one 1 (.one 2 (.am [(6,false)] .done)))) ?_;clear hm;intro w hm;simp only[KT.am]
     iterate 3 refine kq ?_
     refine km (λW hm=>ld 0 hm rfl rfl rfl (ot rfl) rfl) ?_
     refine Bo rfl rfl (JQ hm rfl HE34.o (Ac rfl) rfl ?_)
     clear hm;intro w gq hm;refine⟨λW=>Own _ W _ _,λ_ h=>h,hm.dropRow,?_⟩
     try simp only[Act.put,s3]
     refine DJ rfl rfl (λK hK=>?_);go_simp;refine cB (CF.o _ _ hm) hm ?_;clear hm;intro w1 hm;refine hK _ _ ⟨λW=>Own _ W _ _,λ_ h=>h,hm.dropRow,?_⟩;clear hK K;refine kq ?_;refine Ba ?_;go_simp;by_cases hc:c=s
     .subst hc;have HRR:=aa (HRS.o.trans (aQ rfl));clear HRS
      go_wp2_with(first
       |with_reducible refine t7 ?_;(refine A8 rfl (ew (l:=u) (h:=R.length) rfl HE22.o rfl (.inr ⟨_,rfl⟩) (.inl ⟨rfl,rfl⟩) HUR.o hcX) ?_)
       |(go_at_call 99;have _t:=hm;refine(C99.o _ hm).mono ?_;clear _t hm;rintro x w1⟨V,vV,rfl,hV,hm⟩;obtain⟨adV,cV,rfl⟩:=hV.shape;have HV:=aa hV;clear hV))
      refine aD (fO rfl _ _ _) rfl ?_;rw[HRR.o];exact⟨T,V,_,_,rfl,by rw[rX];exact HT.o,by rw[dQ];exact HV.o,hm⟩
     .have HRR:=aa (HRS.o.trans (aP hc));have q2:(c !=s)=true:=by simpa using hc
      have q3:decide (c=s)=false:=by simpa using hc
      have q4:(c==s)=false:=by simpa using hc
      clear HRS hc;go_wp2;refine aD (fO rfl _ _ _) rfl ?_;rw[HRR.o];exact⟨FU,rfl,hm.sub (((((bG X rs).trans (bG T _)).cons _).cons _)) (aY _)⟩
 .have q1:(e !=0)=true:=by simpa using he
  have HE0:=aa he;have HGN:Hid (Ik m pn s R=.error e):=aa (HG.o.trans (aP he));clear he HG HTB HFI hlen hbin;go_enter func47,ntmps47
  go_wp2_with(first
   |(with_reducible first|refine wa 88 hm FM ?_;clear hm;intro w g7 hm|refine ws 88 0 hm ?_;clear hm;intro w hm)
   |(go_at_call 46;have _t:=hm;refine(C46.o _ hm).mono ?_;clear _t hm;rintro x w1⟨X,v2,rfl,hX,hm⟩;obtain⟨adX,cX,rfl,hcX⟩:=hX.Pe;have HX:=aa hX;clear hX)
   |with_reducible refine wl 3 0 hm ?_
   |(go_at_call 102;have _t:=hm;refine(C102.o _ _ _ _ HX.o hm).mono ?_;clear _t hm;rintro x w1⟨Z,vz,rfl,hZ,hm⟩;obtain⟨adZ,cZ,rfl,hcZ⟩:=hZ.Pe;have HZ:=aa hZ;clear hZ;replace hm:=hm.Cq)
   |(go_at_call 103;have _t:=C103.o _ _ _ _ _ HZ.o hm;refine _t.mono ?_;clear _t;rintro x w1⟨rfl,hb⟩;replace hm:=hm.call hb;clear hb)
   |(with_reducible first|refine wa 139 hm aC ?_;clear hm;intro w g9 hm|refine ws 139 0 hm ?_ (ht:=al (F5 HL.o)) (hs:=al (WC HL.o Az)) (h1:=al J_one);clear hm;intro w hm))
  refine aD (fO rfl _ _ _) rfl ?_;rw[HGN.o];exact⟨HE0.o,rfl,hm.sub ((((bG X rs).trans (bG Z _)).cons _).cons _) (aY _)⟩
end
section
variable{e m n p s:Int}{R left out r2 rest t x:ac}{b f:Nat}
def Va:∀(l:ac)(t:HT)(n:Int)(R:ac),t.ok->Bytes l->b8 t l=.ok (n,R)->1<=n/\n<=65536/\Bytes R/\R.length<l.length
|[],_,_,_,_,_,h=>by cases h
|x::l,t,n,R,ht,hb,h=>by
  have h0:=hb x G5;have hok:=HT.step_ok ht h0.1 (show x<=255 by omega);have hb2:Bytes l:=λy hy=>hb y (fB _ hy);rw[b8]at h;cases hr:t.step x with
 |go t2=>
   rw[hr]at h hok;have:=Va l t2 n R hok hb2 h;exact⟨this.1,this.2.1,this.2.2.1,by simp;omega⟩
 |done k=>rw[hr]at h hok;cases h;exact⟨hok.1,hok.2,hb2,G5⟩
 |bad e=>rw[hr]at h;cases h
def jQ(l:ac)(index:Nat):∀(k r:Nat)(acc t:ac),eC l index k r acc=some t->t.length=k+acc.length
|0,r,acc,t,h=>by
  rw[eC]at h;split at h
  .cases h;simp
  .cases h
|k+1,r,acc,t,h=>by
  rw[eC]at h;split at h
  .cases h
  .have:=jQ l index k _ _ t h;rw[this,bD];omega
def jP(h:chk out p s=.ok t):t.length=out.length:=by
 rw[chk]at h;cases hb:eC out p.toNat out.length 0 []with
|none=>rw[hb]at h;cases h
|some x=>
  rw[hb]at h;simp only at h;split at h
  .cases h;rw[rX,jQ _ _ _ _ _ _ hb];simp
  .cases h
def Ye(m1:1<=m)(m2:m<=65536)(h:Ik m p s R=.ok (t,r2)):(t.length:Int)=m/\∃k,r2=R.drop k:=by
 rw[Ik]at h;split at h
 .split at h
  .cases h
  .rename_i last many hc;split at h
   .split at h
    .cases h
    .rename_i x hx;cases h;rw[jP hx];exact⟨wW m1 m2 hc,_,rfl⟩
   .cases h
 .cases h
def a1t(w0:FC)(o:ac×Nat×Int)(rs:ae)(ss:O1)(x:Ending)(w':FC):Prop:=∃X v,x=.returned (.tuple #[v,.int .i64 o.2.1,.int .i64 o.2.2])/\Lies 1 X v o.1.length (vs .u8 o.1)/\Own w0 w' (X++rs) ss
def Ij(l:ac):ac×Nat×Int:=match b8 ⟨0,0,0⟩ l with
|.error e=>([],0,e)
|.ok (n,R)=>IW n (R.length+1) R [] 0
def bQ(h:BO n .mark left=.error e):IW n (f+1) left x b=(x,b,e):=by rw[IW,h]
def bP(h:BO n .mark left=.ok (.tail s,rest)):IW n (f+1) left x b=if s=crc 0 [x]then(if 0<rest.length then(x,b,261)else(x,b,0))else(x,b,260):=by rw[IW,h]
def lM{n m p s:Int}{f:Nat}{left x rest:ac}{b:Nat}(h:BO n .mark left=.ok (.block m p s,rest)):IW n (f+1) left x b=match Ik m p s rest with
  |.error e=>(x,b,e)
  |.ok (t,r2)=>IW n f r2 (x++t) (b+1):=by rw[IW,h]<;>rfl
def RG{n:Int}:∀(l:ac)(t:MT)(r:MR)(R:ac),BO n t l=.ok (r,R)->(∃m p s,r=.block m p s)\/∃s,r=.tail s
|[],_,_,_,h=>by cases h
|x::l,t,r,R,h=>by
  rw[BO]at h;cases hr:MT.step n x t with
 |go t2=>rw[hr]at h;exact RG l t2 r R h
 |block m p s=>rw[hr]at h;cases h;exact .inl ⟨_,_,_,rfl⟩
 |tail s=>rw[hr]at h;cases h;exact .inr ⟨_,rfl⟩
 |bad=>rw[hr]at h;cases h
end
section
variable{a:OA}{Q:Exit->aJ}{m n:Int}{k:Ob}{l:ac}{ss:O1}{b:O9}{P:O8}{A T Y rs:ae}{w w0:FC}
def a10{c rest:Code}(l:Nat)(J:aJ)(μ:Act->FC->Nat)(hf:findLabel c l=some (Code.seq .skip rest))
  (pass:∀a w,J a w->rest.wp P (Exit.jump l (λa' w'=>J a' w'/\μ a' w'<μ a w) Q) a w)
  (first:(∀a w,J a w->rest.wp P (Exit.jump l J Q) a w)->c.wp P (Exit.jump l J Q) a w):(Code.scope c).wp P Q a w:=
 wp_scope_jumps l J μ hf (first λa w h=>wp_mono (pass a w h) (λe a w he=>by cases e<;>first|exact he|exact⟨he.1,he.2.1⟩)) λa w h=>wp_seq (wp_skip (pass a w h))
def a1Y:(#[.int .i64 m]:ai).size=(#[.int .i64 n]:ai).size:=rfl
def a1y:Value->Nat
|.slice _ n _=>n
|_=>0
def Lies.mw{X:ae}{v:NY}(h:Lies 1 X v l.length (vs k l))(hm:Own w0 w (A++(X++rs)) ss):cC k w v l:=by
 obtain⟨ad,c,rfl,hc⟩:=h.Pe;obtain⟨ad2,c2,he,h2⟩:=h.gZ hm;cases he;exact⟨_,_,rfl,hc,h2⟩
def Own.Uv{a:O9}{V X:ae}(h:Own w0 w (T++(V++(a::b::(X++(Y++rs))))) ss):Own w0 w (b::(X++(T++(V++rs)))) ss:=by
 have e:(a::b::(X++(T++(V++(Y++rs))))).Perm (T++(V++(a::b::(X++(Y++rs))))):=by
  have e1:=Fq (T++V) ([a,b]++X) (Y++rs);simpa only[s2,aI]using e1
 exact(h.perm e).dropRow.sub (((jF (aY X) (jF (aY T) (jF (aY V) (bG Y rs))))).cons_cons b) (aY _)
def a0Z(w0:FC)(l:ac)(n:Int)(rs:ae)(ss:O1)(v:NY)(a:OA)(w:FC):Prop:=∃(x left:ac)(b f g5:Nat)(X Y:ae)(vx vl u1 u4 u7 u8 u9 u10 u11 u12 u13 u14 u15 u16 u17 u18 u19 u20 u21 u22 u23 u24 u25 u26 u27 u28 u29 u30 u31 u32 u33 u34 u35 u36 u37 u38 u39 u40 u41 u42 u43 u44 u45 u46 u47 u48 u49 u50 u51 u52 u53 u54 u55 u56 u57 u58 u59 u60 u61 u62 u63 u64 u65 u66 u67 u68 u69 u70 u71 u72 u73 u74 u75:NY),a={tmps:=(v::u1::vx::(.int .i64 b)::u4::(.pointer (some ⟨g5,0,none⟩))::vl::u7::u8::u9::u10::u11::u12::u13::u14::u15::u16::u17::u18::u19::u20::u21::u22::u23::u24::u25::u26::u27::u28::u29::u30::u31::u32::u33::u34::u35::u36::u37::u38::u39::u40::u41::u42::u43::u44::u45::u46::u47::u48::u49::u50::u51::u52::u53::u54::u55::u56::u57::u58::u59::u60::u61::u62::u63::u64::u65::u66::u67::u68::u69::u70::u71::u72::u73::u74::u75::[]).toArray,defers:=[]}/\Lies 1 X vx x.length (vs .u8 x)/\Lies 1 Y vl left.length (vs .u8 left)/\Bytes left/\b+left.length<=1000/\x.length+65536*left.length<=65536000/\left.length<f/\Ij l=IW n f left x b/\Own w0 w ((g5,#[.int .i64 n])::(X++(Y++rs))) ss
def sH{v:NY}(ss:O1)(hm:Own w0 w rs ss)(hv:∀W,Own w0 W rs ss->cC .u8 W v l)(hb:Bytes l)(hn:l.length<=1000):ak 13 #[v] w (a1t w0 (Ij l) rs ss):=by
 have C45:Hid (∀W,Own w0 W rs ss->ak 45 #[v] W (yM w0 (b8 ⟨0,0,0⟩ l) rs ss)):=λW h=>a0K h hv hb hn;obtain⟨i22,hEM⟩:=nP;have HEM:=aa hEM;clear hEM;have hok:=λn R=>Va l ⟨0,0,0⟩ n R (.inl ⟨FU,FU,rfl,rfl⟩) hb;cases hH:b8 ⟨0,0,0⟩ l with
|error e=>
  rw[hH]at C45;have HRes:Hid (Ij l=([],0,e)):=aa (by rw[Ij,hH]);clear hok hH hb hv;go_enter func13,ntmps13;go_wp2;refine wp_scope_jumps 0 (λ_ _=>False) (λ_ _=>0) rfl ?_ (λ_ _ h=>h.elim)
  go_wp2_with(first
   |(with_reducible first|refine wa 80 hm qg ?_;clear hm;intro w g5 hm|refine ws 80 0 hm ?_;clear hm;intro w hm)
   |(go_at_call 45;have _t:=hm;refine(C45.o _ hm).mono ?_;clear _t hm;rintro x w1⟨he,rfl,hm⟩;have q1:(e !=0)=true:=qO.2 he;have HE0:=aa he;clear he))
  simp only[Exit.jump];refine aD (fO rfl _ _ _) rfl ?_;rw[HRes.o];exact⟨[],_,rfl,Lies.nil 1,hm.dropRow⟩
|ok o =>
  obtain⟨n,R⟩:=o;obtain⟨hn1,hn2,hRB,hRl⟩:=hok n R hH;rw[hH]at C45;have HN:Hid (1<=n/\n<=65536):=aa ⟨hn1,hn2⟩;have HRB:=aa hRB;have HRes0:Hid (Ij l=IW n (R.length+1) R [] 0):=aa (by rw[Ij,hH]);have HRL:Hid (R.length<=1000):=aa FP;clear hok hH hb hv hn1 hn2 hRB hRl;go_enter func13,ntmps13;go_wp2;refine a10 0 (a0Z w0 l n rs ss v) (λa _=>a1y (a.tmps.getD 6 undef)) rfl ?_ ?_
  .clear hm C45;rintro a w⟨x,left,b,f,g5,X,Y,vx,vl,u1,u4,u7,u8,u9,u10,u11,u12,u13,u14,u15,u16,u17,u18,u19,u20,u21,u22,u23,u24,u25,u26,u27,u28,u29,u30,u31,u32,u33,u34,u35,u36,u37,u38,u39,u40,u41,u42,u43,u44,u45,u46,u47,u48,u49,u50,u51,u52,u53,u54,u55,u56,u57,u58,u59,u60,u61,u62,u63,u64,u65,u66,u67,u68,u69,u70,u71,u72,u73,u74,u75,rfl,hX,hY,hbl,hb1,hx1,hf,hR,hm⟩;obtain⟨f,rfl⟩:∃k,f=k+1:=⟨f-1,FP⟩;obtain⟨adX,cX,rfl⟩:=hX.shape;obtain⟨adY,cY,rfl⟩:=hY.shape;have HX:=aa hX;have HY:=aa hY;have HBL:=aa hbl;have HXL:Hid (x.length<=65536000):=aa FP;have C46:Hid (∀W,Own w0 W ((g5,#[.int .i64 n])::(X++(Y++rs))) ss->ak 46 #[.int .i64 n,.slice adY left.length cY] W (yN w0 (BO n .mark left) ((g5,#[.int .i64 n])::(X++(Y++rs))) ss)):=λW h=>VB HN.o.1 HN.o.2 h (λW h=>HY.o.mw (A:=_::X) h) HBL.o FP;have HB1:=aa hb1
   have HX1:=aa hx1;have HF:=aa hf;have hok:=λr R=>Ph HN.o.1 HN.o.2 left .mark r R trivial HBL.o;have hend:=λr R=>RG (n:=n) left .mark r R;cases hM:BO n .mark left with
  |error e=>
    have HRes:Hid (Ij l=(x,b,e)):=aa (hR.trans (bQ hM));rw[hM]at C46;clear hX hY hbl hb1 hx1 hf hR hok hend hM
    go_wp2_with(first
     |(with_reducible first|refine wa 88 hm FM ?_;clear hm;intro w g7 hm|refine ws 88 0 hm ?_;clear hm;intro w hm|refine wl 3 0 hm ?_)
     |(go_at_call 46;have _t:=hm;refine(C46.o _ hm).mono ?_;clear _t hm;rintro x w1⟨he,rfl,hm⟩;have q1:(e !=0)=true:=qO.2 he;have HE0:=aa he;clear he))
    exact Co
  |ok o=>
    obtain⟨r,R⟩:=o;obtain⟨hok1,hok2,hok3⟩:=hok r R hM;rw[hM]at C46;rcases hend r R hM with⟨m,p,s,rfl⟩|⟨s,rfl⟩
    .have hm12:1<=m/\m<=65536:=by simp only[MR.ok]at hok1;have:=HN.o;omega
     have C47:Hid (∀W{a:O9},Own w0 W (a::(g5,#[.int .i64 n])::(X++(Y++rs))) ss->ak 47 #[.int .i64 n,.slice adY left.length cY] W (F3 w0 (Ik m p s R) (a::(g5,#[.int .i64 n])::(X++(Y++rs))) ss)):=λW a h=>aN HN.o.1 HN.o.2 hM h (λW h=>HY.o.mw (A:=_::_::X) h) HBL.o FP;have hR2:=hR.trans (lM hM);have hfa:=λt r2=>Ye (s:=s) (p:=p) (R:=R) (t:=t) (r2:=r2) hm12.1 hm12.2;have HMS:MR.st (.block m p s)=MS 4 0 0 m p s 4:=rfl;cases hB:Ik m p s R with
    |error e=>
      rw[hB]at hR2 C47;have HRes:Hid (Ij l=(x,b,e)):=aa hR2;clear hX hY hbl hb1 hx1 hf hR hok hend hM hok1 hok2 hok3 hm12 hR2 hfa hB
      go_wp2_with(first
       |(with_reducible first|refine wa 88 hm FM ?_;clear hm;intro w g7 hm|refine ws 88 0 hm ?_;clear hm;intro w hm)
       |with_reducible (first|refine wl 3 0 hm ?_|refine wl 3 1 hm ?_)
       |(go_at_call 46;have _t:=hm;refine(C46.o _ hm).mono ?_;clear _t hm;rintro x w1⟨V0,v0,rfl,hV0,hm⟩;obtain⟨ad0,c0,rfl⟩:=hV0.shape;clear hV0;replace hm:=hm.sub (bG V0 _) (aY _))
       |(go_at_call 47;have _t:=hm;refine(C47.o _ hm).mono ?_;clear _t hm;rintro x w1⟨he,rfl,hm⟩;have q1:(e !=0)=true:=qO.2 he;have HE0:=aa he;clear he))
      exact Co
    |ok o=>
      obtain⟨t,r2⟩:=o;rw[hB]at hR2 C47;obtain⟨ht,k,rfl⟩:=hfa t r2 hB;have HRes:Hid (Ij l=IW n f (R.drop k) (x++t) (b+1)):=aa hR2;have HTL:Hid (t.length<=65536):=aa FP;have HDB:Hid (Bytes (R.drop k)):=aa (λy hy=>hok2 y (iw hy));have hdl:(R.drop k).length+1<=left.length:=by rw[dQ];omega
      have HDL:=aa hdl;have hb2:b<=100000:=FP
      clear hX hY hbl hb1 hx1 hf hR hok hend hM hok1 hok2 hok3 hm12 hR2 hfa hB hdl ht;generalize R.drop k=left2 at*
      go_wp2_with(first
       |(with_reducible first|refine wa 88 hm FM ?_;clear hm;intro w g7 hm|refine ws 88 0 hm ?_;clear hm;intro w hm)
       |with_reducible (first|refine wl 3 0 hm ?_|refine wl 3 1 hm ?_)
       |(go_at_call 46;have _t:=hm;refine(C46.o _ hm).mono ?_;clear _t hm;rintro x w1⟨V0,v0,rfl,hV0,hm⟩;obtain⟨ad0,c0,rfl⟩:=hV0.shape;clear hV0;replace hm:=hm.sub (bG V0 _) (aY _))
       |(go_at_call 47;have _t:=hm;refine(C47.o _ hm).mono ?_;clear _t hm;rintro x w1⟨T,V,vt,vr,rfl,hT,hV,hm⟩;replace hm:=hm.Uv;obtain⟨adt,ct,rfl⟩:=hT.shape;obtain⟨adr,cr,rfl⟩:=hV.shape;have HT:=aa hT;have HV:=aa hV;clear hT hV)
       |(refine Ad rfl (GR (A:=[_]) (X:=X) hm rfl HEM.o (Ac rfl) HX.o (Ac rfl) (λW h=>HT.o.from (A:=(_::X)) h) (Ic _ _) (by have:=HXL.o;have:=HTL.o;omega) (by have:=HXL.o;have:=HTL.o;omega) FP ?_);clear hm;intro X2 v3 w hX2 hm;simp only[s2]at hm;obtain⟨ad3,c3,rfl⟩:=hX2.shape;have HX2:=aa hX2;clear hX2))
      go_step3
      refine⟨rfl,⟨x++t,left2,b+1,f,g5,X2,V,_,_,_,_,_,_,_,_,_,_,_,_,_,_,_,_,_,_,_,_,_,_,_,_,_,_,_,_,_,_,_,_,_,_,_,_,_,_,_,_,_,_,_,_,_,_,_,_,_,_,_,_,_,_,_,_,_,_,_,_,_,_,_,_,_,_,_,_,_,_,_,_,_,rfl,by rw[aV,P7];exact HX2.o,HV.o,HDB.o,by have:=HB1.o;have:=HDL.o;omega,by rw[aV];have:=HX1.o;have:=HDL.o;have:=HTL.o;omega,by have:=HF.o;have:=HDL.o;omega,HRes.o,hm.sub ((jF (aY X2) (bG T _)).cons_cons _) (aY _)⟩,?_⟩;show left2.length<left.length;have:=HDL.o;omega
    .have hR2:=hR.trans (bP hM);have HMS:MR.st (.tail s)=MS 6 0 0 0 0 s 4:=rfl
     have CF:Hid (∀W(gq:Nat){a b:O9},Own w0 W ((gq,#[.slice adX x.length cX])::a::b::(X++(Y++rs))) ss->ak 48 #[.slice (some ⟨gq,0,none⟩) 1 1] W (RB W (.int .u32 (crc 0 [x])))):=λW gq a b h=>jM [x] (j8.By h (HX.o.ny (A:=[(gq,#[.slice adX x.length cX]),a,b]) h)) (by
      intro p hp;obtain rfl:p=x:=by simpa using hp
      have:=HXL.o
      omega) G5
     have HR2:=aa hR2;obtain⟨i34,hE34⟩:=wO;have HE34:=aa hE34;clear hE34 hX hY hbl hb1 hx1 hf hR hok hend hM hok1 hok2 hok3 hR2;generalize crc 0 [x]=c at*
     go_upto_region 12 with(first
      |(with_reducible first|refine wa 88 hm FM ?_;clear hm;intro w g7 hm|refine ws 88 0 hm ?_;clear hm;intro w hm|refine wl 3 0 hm ?_)
      |(go_at_call 46;have _t:=hm;refine(C46.o _ hm).mono ?_;clear _t hm;rintro x w1⟨V0,v0,rfl,hV0,hm⟩;obtain⟨ad0,c0,rfl⟩:=hV0.shape;clear hV0;replace hm:=hm.sub (bG V0 _) (aY _)))
     refine rO hm 8 (.am [(0,false),(1,false),(2,true),(3,false)] (.one 4 (.one 5 (.am [(6,false),(7,false)] .done)))) ?_;clear hm;intro w hm;simp only[KT.am]
     iterate 2 refine kq ?_
     refine km (λW hm=>ld 0 hm rfl rfl rfl (ot rfl) rfl) ?_;refine kq ?_
     refine Bo rfl rfl (JQ hm rfl HE34.o (Ac rfl) rfl ?_)
     clear hm;intro w gq hm;refine⟨λW=>Own _ W _ _,λ_ h=>h,hm.dropRow,?_⟩
     try simp only[Act.put,s3]
     refine DJ rfl rfl (λK hK=>?_);go_simp;refine cB (CF.o _ _ hm) hm ?_;clear hm;intro w1 hm;refine hK _ _ ⟨λW=>Own _ W _ _,λ_ h=>h,hm.dropRow,?_⟩;clear hK K
     iterate 2 refine kq ?_
     refine Ba ?_;go_simp;by_cases hc:s=c
     .subst hc;have HR3:=aa (HR2.o.trans (aQ rfl));clear HR2;by_cases hr:R.length=0
      .have HRes:Hid (Ij l=(x,b,0)):=aa (HR3.o.trans (aP FP));obtain rfl:R=[]:=rC hr;clear HR3 hr;exact ut
      .have HRes:Hid (Ij l=(x,b,261)):=aa (HR3.o.trans (aQ FP));have q3:(0:Int)<(R.length:Int):=FP
       clear HR3 hr;exact ut
     .have HRes:Hid (Ij l=(x,b,260)):=aa (HR2.o.trans (aP hc));have q2:(s !=c)=true:=by simpa using hc
      have q3:decide (s=c)=false:=by simpa using hc
      have q4:(s==c)=false:=by simpa using hc
      clear HR2 hc;exact ut
  .intro PS
   go_wp2_with(first
    |(with_reducible first|refine wa 80 hm qg ?_;clear hm;intro w g5 hm|refine ws 80 0 hm ?_;clear hm;intro w hm)
    |(go_at_call 45;have _t:=hm;refine(C45.o _ hm).mono ?_;clear _t hm;rintro x w1⟨X0,v0,rfl,hX0,hm⟩;obtain⟨ad0,c0,rfl⟩:=hX0.shape;have HX0:=aa hX0;clear hX0))
   go_step3
   refine(‹∀(a:OA)(w:FC),Code.wp _ _ _ a w->_›) _ _ (PS _ _ ⟨[],R,0,R.length+1,g5,[],X0,_,_,_,_,_,_,_,_,_,_,_,_,_,_,_,_,_,_,_,_,_,_,_,_,_,_,_,_,_,_,_,_,_,_,_,_,_,_,_,_,_,_,_,_,_,_,_,_,_,_,_,_,_,_,_,_,_,_,_,_,_,_,_,_,_,_,_,_,_,_,_,_,_,rfl,Lies.nil 1,HX0.o,HRB.o,by have:=HRL.o;omega,by have:=HRL.o;simp;omega,FP,HRes0.o,hm⟩)
end
end Go.Proofs.YtkpbhdhkdonghaaGreat
