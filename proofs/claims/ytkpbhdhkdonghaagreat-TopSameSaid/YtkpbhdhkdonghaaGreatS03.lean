/- Part 3 of the proof. -/
import Derived.Laws.AppendOwnNone
import Derived.Test.YtkpbhdhkdonghaaGreatS01
set_option linter.all false
namespace Go.Proofs.YtkpbhdhkdonghaaGreat
open Go Go.RowKit
section
variable{ad:Addr}{cs ns:ai}{zz:Int}{q:Ob}{l:ac}{news xs ys:ar}{base base' c g k n off r size:Nat}{x y:O7}{e s t ty:O4}{i:Oy}{sv v' z:NY}{w':FC}
structure Gv(P:O8)(t e:O4)(i:Oy)(z:NY)(bytes:Nat):Prop where
 under:P.underlying t=some (.slice e)
 info:P.info? e=some i
 zero:i.zero=some z
 size:i.size=1
 bytes:i.bytes=bytes
 cell:z.cells=#[z]
def Gv.ex{P:O8}{bytes:Nat}(hu:P.underlying t=some (.slice e))(h:(P.info? e).map (λi=>(i.zero,i.size,i.bytes))=some (some z,1,bytes))(hc:z.cells=#[z]):∃i,Gv P t e i z bytes:=by
 cases hi:P.info? e with
|none=>rw[hi]at h;cases h
|some i=>
  rw[hi]at h;simp only[jE,oG,oz]at h;exact⟨i,hu,hi,h.1,h.2.1,h.2.2,hc⟩
abbrev Sl:=Value×TypeId×ar
abbrev O1:=List Sl
def BN:ar->List (Value×Value)
|k::v::r=>(k,v)::BN r
|_=>[]
def N9(w:FC)(r:Nat)(xs:ar):Prop:=∃es clock,w.heap[r]?=some (.map es clock)/\(∀e∈es.toList,(e.key,e.val)∈BN xs)/\(∀p∈BN xs,∃e∈es.toList,e.key=p.1)/\es.size=(BN xs).length
def Ey:Nat:=1000
structure Jw(w:FC)(base:Nat)(s:Sl):Prop where
 sl:s.2.1<Ey->w.ownsRow base s.2.1 1 s.1 s.2.2.length s.2.2
 mp:¬s.2.1<Ey->base<=s.2.1-Ey/\N9 w (s.2.1-Ey) s.2.2/\s.1=.slice none 0 0
def N9.lt{w:FC}(h:N9 w r xs):r<w.heap.size:=by
 obtain⟨es,c,h1,_⟩:=h;exact(ji.1 h1).1
def N9.block{w:FC}(h:N9 w r xs)(hb:w'.heap[r]?=w.heap[r]?):N9 w' r xs:=by
 obtain⟨es,c,h1,h2⟩:=h;exact⟨es,c,hb.trans h1,h2⟩
def Jw.lt{w:FC}{base:Nat}{s:Sl}(h:Jw w base s):∀k,s.1.ownBlock=some k->base<=k/\k<w.heap.size:=by
 intro k hk;by_cases hq:s.2.1<Ey
 .exact(h.sl hq).lt k hk
 .rw[(h.mp hq).2.2]at hk;cases hk
def Jw.cells{w:FC}{base:Nat}{s:Sl}(h:Jw w base s):∀k,s.1.ownBlock=some k->∃cs t f,w.heap[k]?=some (.cells cs t f):=by
 intro k hk;by_cases hq:s.2.1<Ey
 .rcases(h.sl hq).2 with⟨hv,_⟩|⟨g,cap,cur,hv,_,hg,_⟩
  .rw[hv]at hk;cases hk
  .rw[hv]at hk;cases hk;exact⟨_,_,_,hg⟩
 .rw[(h.mp hq).2.2]at hk;cases hk
def Jw.blocks{w:FC}{s:Sl}(h:Jw w base s)(hb:∀k,k<w.heap.size->w'.heap[k]?=w.heap[k]?):Jw w' base s:=by
 refine⟨λhq=>?_,λhq=>?_⟩
 .have h1:=h.sl hq;refine⟨h1.1,?_⟩;rcases h1.2 with hn|⟨g,cap,cur,hv,hg,hh,rest⟩
  .exact .inl hn
  .exact .inr ⟨g,cap,cur,hv,hg,(hb g (ji.1 hh).1).trans hh,rest⟩
 .obtain⟨h1,h2,h3⟩:=h.mp hq;exact⟨h1,h2.block (hb _ h2.lt),h3⟩
def Jw.alloc{w:FC}{base:Nat}{s:Sl}(h:Jw w base s)(o:Obj):Jw (w.alloc o) base s:=h.blocks (λ_ hk=>heap_alloc_old w o hk)
def Jw.kept{w w':FC}{base:Nat}{s:Sl}{row:Oo}(h:Jw w base s)(hg:w.grownBy w' row)(hne:s.1.ownBlock=none\/s.1.ownBlock≠row)(hc:∀k,row=some k->∃cs t f,w.heap[k]?=some (.cells cs t f)):Jw w' base s:=by
 refine⟨λhq=>(h.sl hq).kept hg hne,λhq=>?_⟩;obtain⟨h1,h2,h3⟩:=h.mp hq;refine⟨h1,h2.block (hg.block _ h2.lt ?_),h3⟩;intro e;obtain⟨cs,t,f,e2⟩:=hc _ e.symm;obtain⟨es,c,e3,_⟩:=h2;rw[e2]at e3;cases e3
structure Own(w0 w:FC)(rs:ae)(ss:O1):Prop where
 mem:Mem w0 w rs
 sl:∀s∈ss,Jw w w0.heap.size s
 apart:(ss.filterMap (·.1.ownBlock)++rs.map (·.1)).Nodup
def Own.below{w0 w:FC}{rs:ae}{ss:O1}(h:Own w0 w rs ss):Below w0.heap.size w0 w:=h.mem.below
def Own.nil(w:FC):Own w w [] []:=⟨Mem.nil w,G5,G5⟩
def Own.row{w0 w:FC}{rs:ae}{ss:O1}(h:Own w0 w rs ss)(i:Nat)(hi:rs[i]?=some (g,cs)):AA w g cs:=h.mem.get i hi
def Own.get{w0 w:FC}{rs:ae}{ss:O1}(h:Own w0 w rs ss)(j:Nat){s:Sl}(hj:ss[j]?=some s)(hq:s.2.1<Ey:=by exact N8):w.ownsRow w0.heap.size s.2.1 1 s.1 s.2.2.length s.2.2:=
 (h.sl s (dT hj)).sl hq
def Own.rJ{w0 w:FC}{rs:ae}{ss:O1}(h:Own w0 w rs ss):∀k∈ss.filterMap (·.1.ownBlock),w0.heap.size<=k/\k<w.heap.size:=by
 intro k hk;obtain⟨s,hs,e⟩:=iU.1 hk;exact(h.sl s hs).lt k e
def Own.alloc{w0 w:FC}{rs:ae}{ss:O1}(h:Own w0 w rs ss)(cs:ai)(t:O4):Own w0 (w.alloc (.cells cs t)) ((w.heap.size,cs)::rs) ss:=by
 refine⟨h.mem.alloc cs t,λs hs=>(h.sl s hs).alloc _,?_⟩;rw[bT,jv];obtain⟨h1,h2,h3⟩:=jv.1 h.apart;have hm:=(h.mem.alloc cs t).apart;refine⟨h1,by simpa using hm,?_⟩;intro a ha b hb;rcases dh.1 hb with rfl|hb
 .have:=(h.rJ a ha).2;omega
 .exact h3 a ha b hb
def Own.PV{w0 w:FC}{rs:ae}{ss:O1}(h:Own w0 w rs ss)(o:Obj):Own w0 (w.alloc o) rs ss:=
 ⟨h.mem.PV o,λs hs=>(h.sl s hs).alloc o,h.apart⟩
def Own.drawn{w0 w:FC}{rs:ae}{ss:O1}(h:Own w0 w rs ss)(n:Nat):Own w0 {w with drawn:=n} rs ss:=
 ⟨h.mem.drawn n,λs hs=>(h.sl s hs).blocks (λ_ _=>rfl),h.apart⟩
def Own.call{w0 w w':FC}{rs:ae}{ss:O1}(h:Own w0 w rs ss)(hb:Below w.heap.size w w'):Own w0 w' rs ss:=
 ⟨h.mem.call hb,λs hs=>(h.sl s hs).blocks (λk hk=>hb.block k hk),h.apart⟩
def ownsRow_base{w:FC}{v:NY}(h:w.ownsRow base e size v n xs)(hb:base'<=base):w.ownsRow base' e size v n xs:=by
 refine⟨h.1,?_⟩;rcases h.2 with hn|⟨g,cap,cur,rfl,hg,rest⟩
 .exact .inl hn
 .exact .inr ⟨g,cap,cur,rfl,jy hb hg,rest⟩
def Own.fG{w0 w:FC}{rs:ae}{ss:O1}(h:Own w0 w rs ss)(hb:Below w.heap.size w w'){v:NY}(ho:w'.ownsRow w.heap.size e 1 v xs.length xs)(hq:e<Ey:=by exact N8):Own w0 w' rs ((v,e,xs)::ss):=by
 have h':=h.call hb;refine⟨h'.mem,?_,?_⟩
 .intro s hs;rcases dh.1 hs with rfl|hs
  .exact⟨λ_=>ownsRow_base ho h.below.size,λhn=>absurd hq hn⟩
  .exact h'.sl s hs
 .cases hv:v.ownBlock with
 |none=>simpa[iZ,hv]using h.apart
 |some g=>
   have hg:=(ho.lt g hv).1;simp only[iZ,hv,eG,dR];refine⟨?_,h.apart⟩;intro hm;rcases dG.1 hm with hm|hm
   .have:=(h.rJ g hm).2;omega
   .exact qJ
def Own.vm{w0 w:FC}{rs:ae}{ss:O1}(h:Own w0 w rs ss)(e:O4)(hq:e<Ey:=by exact N8):Own w0 w rs ((.slice none 0 0,e,[])::ss):=by
 refine⟨h.mem,?_,by simpa[iZ,Value.ownBlock]using h.apart⟩;intro s hs;rcases dh.1 hs with rfl|hs
 .exact⟨λ_=>oJ _ _ _ _,λhn=>absurd hq hn⟩
 .exact h.sl s hs
def Own.dropRow{w0 w:FC}{r:O9}{rs:ae}{ss:O1}(h:Own w0 w (r::rs) ss):Own w0 w rs ss:=by
 refine⟨⟨h.mem.below,λp hp=>h.mem.own p (by simp[hp]),λp hp=>h.mem.rows p (by simp[hp]),?_⟩,h.sl,?_⟩
 .have:=h.mem.apart;rw[bT,dR]at this;exact this.2
 .obtain⟨h1,h2,h3⟩:=jv.1 h.apart;rw[bT,dR]at h2;exact jv.2 ⟨h1,h2.2,λa ha b hb=>h3 a ha b (by simp[hb])⟩
def Own.J9{w0 w:FC}{rs:ae}{s:Sl}{ss:O1}(h:Own w0 w rs (s::ss)):Own w0 w rs ss:=by
 refine⟨h.mem,λx hx=>h.sl x (by simp[hx]),?_⟩;have:=h.apart;rw[iZ]at this;split at this
 .exact this
 .rw[eG,dR]at this;exact this.2
def Own.putRow{w0 w:FC}{rs:ae}{ss:O1}(h:Own w0 w rs ss)(i:Nat){vs:ai}(hi:rs[i]?=some (g,cs))(hr:AA w' g vs)(hg:w.grownBy w' (some g)):Own w0 w' (rs.set i (g,vs)) ss:=by
 refine⟨h.mem.put i hi hr hg,λs hs=>(h.sl s hs).kept hg ?_ (λk hk=>by cases hk;obtain⟨t,ht⟩:=h.row i hi;exact⟨_,_,_,ht⟩),?_⟩
 .cases hv:s.1.ownBlock with
 |none=>exact .inl rfl
 |some k=>
   refine .inr λe=>?_;cases e;obtain⟨_,_,h3⟩:=jv.1 h.apart;exact h3 g (iU.2 ⟨s,hs,hv⟩) g (eX.2 ⟨(g,cs),dT hi,rfl⟩) rfl
 .rw[KI rs i g cs vs hi];exact h.apart
def Own.setRow{w0 w:FC}{rs:ae}{ss:O1}(h:Own w0 w rs ss)(i:Nat){g:Nat}{cs:ai}(vs:ai)(hi:rs[i]?=some (g,cs)):Own w0 (w.setRow g vs) (rs.set i (g,vs)) ss:=
 h.putRow i hi ((h.row i hi).setRow vs) (EC w g vs)
def Own.setCell{w0 w:FC}{rs:ae}{ss:O1}(h:Own w0 w rs ss)(i:Nat){g:Nat}{cs:ai}(k:Nat)(v:NY)(hi:rs[i]?=some (g,cs)):Own w0 (w.setCell ⟨g,k,none⟩ v) (rs.set i (g,cs.setIfInBounds k v)) ss:=
 h.putRow i hi ((h.row i hi).setCell k v) (grownBy_setCell w g k v)
def Own.Fi{w0 w:FC}{rs:ae}{ss:O1}(h:Own w0 w rs ss)(j:Nat){v:NY}(hj:ss[j]?=some (v,e,xs))(ho:w'.ownsRow w0.heap.size e 1 v' ys.length ys)(hg:w.grownBy w' v.ownBlock)
  (hb:v'.ownBlock=v.ownBlock\/v'.ownBlock=some w.heap.size)(hq:e<Ey:=by exact N8):Own w0 w' rs (ss.set j (v',e,ys)):=by
 obtain⟨n1,n2,n3⟩:=jv.1 h.apart;have hjm:=dT hj;have hne:∀k,v.ownBlock=some k->k∉rs.map (·.1):=λk hk hm=>n3 k (iU.2 ⟨_,hjm,hk⟩) k hm rfl
 have hoth:∀i s,i≠j->ss[i]?=some s->∀k,s.1.ownBlock=some k->v.ownBlock≠some k:=by
  clear ho hg hb n2 n3 hne hjm;have:=n1;clear n1 h
  induction ss generalizing j with
 |nil=>intro i s _ hi;simp at hi
 |cons a ss ih=>
   intro i s hij hi k hk hv;cases i with
  |zero=>
    simp at hi;subst hi;cases j with
   |zero=>exact hij rfl
   |succ j=>
     simp at hj;rw[iZ,hk]at this;exact(dR.1 this).1 (iU.2 ⟨_,dT hj,hv⟩)
  |succ i=>
    simp at hi;cases j with
   |zero=>
     simp at hj;subst hj;rw[iZ,hv]at this;exact(dR.1 this).1 (iU.2 ⟨_,dT hi,hk⟩)
   |succ j=>
     simp at hj;refine ih j hj ?_ i s FP hi k hk hv;rw[iZ]at this;split at this
     .exact this
     .exact(dR.1 this).2
 have hnew:∀k,v'.ownBlock=some k->(∀i s,i≠j->ss[i]?=some s->s.1.ownBlock≠some k)/\k∉rs.map (·.1):=by
  intro k hk;rcases hb with hb|hb
  .rw[hb]at hk;exact⟨λi s hi hs e=>hoth i s hi hs k e hk,hne k hk⟩
  .rw[hb]at hk;cases hk;refine⟨λi s _ hs e=>?_,λhm=>?_⟩
   .have:=(h.rJ _ (iU.2 ⟨s,dT hs,e⟩)).2;omega
   .exact qJ
 refine⟨h.mem.grown hg (λk hk=>(h.rJ k (iU.2 ⟨_,hjm,hk⟩)).1) hne,?_,?_⟩
 .intro s hs;rcases Gl _ _ _ _ hs with rfl|⟨i,hi,e⟩
  .exact⟨λ_=>ho,λhn=>absurd hq hn⟩
  .refine(h.sl s (dT e)).kept hg ?_ (λk hk=>(h.sl _ hjm).cells k hk);cases hv:s.1.ownBlock with
  |none=>exact .inl rfl
  |some k=>exact .inr (λe2=>hoth i s hi e k hv e2.symm)
 .refine jv.2 ⟨?_,n2,?_⟩
  .clear ho hg hb n2 n3 hne hjm hoth;have hn:=n1;clear n1 h;have hnew':=λk hk=>(hnew k hk).1;clear hnew
   induction ss generalizing j with
  |nil=>simp
  |cons a ss ih=>
    cases j with
   |zero=>
     simp at hj;subst hj
     have hss:(ss.filterMap (·.1.ownBlock)).Nodup:=by
      rw[iZ]at hn;split at hn
      .exact hn
      .exact(dR.1 hn).2
     simp only[EP,iZ];split
     .exact hss
     .rename_i k hk;refine dR.2 ⟨λhm=>?_,hss⟩;obtain⟨s,hs,e⟩:=iU.1 hm;obtain⟨i,hi,e2⟩:=uh hs;exact hnew' k hk (i+1) s FP (by simp[fe hi,e2]) e
   |succ j=>
     simp at hj
     have hss:=ih j hj (by
      rw[iZ]at hn;split at hn
      .exact hn
      .exact(dR.1 hn).2) (λk hk i s hi hs=>hnew' k hk (i+1) s FP Hw)
     simp only[ku,iZ];split
     .exact hss
     .rename_i k hk;refine dR.2 ⟨λhm=>?_,hss⟩;obtain⟨s,hs,e⟩:=iU.1 hm;rcases Gl _ _ _ _ hs with rfl|⟨i,hi,e2⟩
      .exact hnew' k e 0 a FP rfl hk
      .rw[iZ,hk]at hn;exact(dR.1 hn).1 (iU.2 ⟨s,dT e2,e⟩)
  .intro a ha b hb2 hab;subst hab;obtain⟨s,hs,e⟩:=iU.1 ha;rcases Gl _ _ _ _ hs with rfl|⟨i,hi,e2⟩
   .exact(hnew a e).2 hb2
   .exact n3 a (iU.2 ⟨s,dT e2,e⟩) a hb2 rfl
section
variable{P:O8}{w:FC}
def Src(w:FC)(v:NY)(news:ar):Prop:=(v=.slice none 0 0/\news=[])\/∃ad c,v=.slice (some ad) news.length c/\(∀j u,news[j]?=some u->w.cell? (ad.add j)=some u)
def Src.io(h:AA w g cs)(off n c:Nat)(news:ar)(hn:news.length=n)(hc:∀j u,news[j]?=some u->cs[off+j]?=some u):Src w (.slice (some ⟨g,off,none⟩) n c) news:=by
 subst hn;exact .inr ⟨_,_,rfl,λj u hj=>by rw[fQ,h.cell];exact hc j u hj⟩
def Src.Yo{v:NY}(h:w.ownsRow base e 1 v xs.length xs):Src w v xs:=by
 rcases h.2 with⟨rfl,h0⟩|⟨g,cap,cur,rfl,_,hg,_,_,_,ht⟩
 .exact .inl ⟨rfl,l9.1 h0⟩
 .exact .inr ⟨⟨g,0,none⟩,cap,rfl,λj u hj=>h.cells (g:=g) rfl j u hj⟩
def Rx{bytes:Nat}(he:Gv P t e i z bytes){v:NY}(hown:w.ownsRow base e 1 v n xs)
  (hs:Src w sv news)(h1:∀u∈news,u.oneCell'=true)(h63:n+news.length<=maxLen)(hbytes:(n+news.length)*bytes<=140737488355328)(hbase:base<=w.heap.size):
  ∃a c w',(Builtin.append_ #[t,t] ty #[v,sv]).run P w=.ok (.slice a (n+news.length) c) w'/\w'.ownsRow base e 1 (.slice a (n+news.length) c) (n+news.length) (xs++news)/\w.grownBy w' v.ownBlock/\
   ((Value.slice a (n+news.length) c).ownBlock=v.ownBlock\/(Value.slice a (n+news.length) c).ownBlock=some w.heap.size):=by
 have hzs:z.cells.size=1:=by rw[he.cell];rfl
 have hsmall:n+news.length<=9223372036854775807:=by simp only[maxLen]at h63;omega
 rcases hs with⟨rfl,rfl⟩|⟨ad,c,rfl,hnews⟩
 .have hr:=run_append_owned_none (P:=P) (w:=w) base t ty e i 1 he.under he.info v n xs hown;simp only[bW,mW,fF];rcases hown.2 with⟨rfl,rfl⟩|⟨g,cap,cur,rfl,_⟩
  .exact⟨none,0,w,hr,hown,⟨rfl,rfl,rfl,aX _,λ_ _ _=>rfl⟩,.inl rfl⟩
  .exact⟨_,_,w,hr,hown,⟨rfl,rfl,rfl,aX _,λ_ _ _=>rfl⟩,.inl rfl⟩
 .obtain⟨v',w',hr,h2,h3,h4⟩:=run_append_own (P:=P) w base t ty e i z 1 bytes he.under he.info he.zero he.size he.bytes hzs FP v n xs hown ad news.length c news FP hnews h1 h63 hbytes hbase
  suffices hsh:∃a c,v'=.slice a (n+news.length) c/\((Value.slice a (n+news.length) c).ownBlock=v.ownBlock\/(Value.slice a (n+news.length) c).ownBlock=some w.heap.size) by
   obtain⟨a,c',rfl,hb⟩:=hsh;exact⟨a,c',w',hr,h2,h3,hb⟩
  rcases hown.2 with⟨rfl,rfl⟩|⟨g,cap,cur,rfl,hbg,hg,hnc,hcm,hcs,htake⟩
  .by_cases hm:news.length=0
   .have:=h4.2 ⟨rfl,hm⟩;exact⟨none,0,by rw[this,hm],.inl rfl⟩
   .have hr2:=run_append_nil (P:=P) w t ty e i z he.under he.info he.zero ad news.length c news J3 hnews FP FP (by rw[he.bytes];have hb:=hbytes;simp only[dA]at hb;omega);rw[hr]at hr2;simp only[F9]at hr2;exact⟨_,_,by rw[hr2.1,dA],.inr (by rw[dA];rfl)⟩
  .by_cases hroom:n+news.length<=cap
   .have hr2:=run_append_room (P:=P) w t ty e i he.under he.info g n cap cur hg ad news.length c news J3 hnews h1 hroom J3;rw[hr]at hr2;simp only[F9]at hr2;exact⟨_,_,hr2.1,.inl rfl⟩
   .have holds:∀j u,xs[j]?=some u->w.cell? ((⟨g,0,none⟩:Addr).add j)=some u:=hown.cells (g:=g) rfl;have hr2:=run_append_grow (P:=P) w t ty e i z he.under he.info he.zero ⟨g,0,none⟩ n cap xs (by rw[he.size];exact hown.1) holds ad news.length c news J3 hnews FP FP (by rw[he.bytes];exact tY FP hbytes);rw[hr]at hr2;simp only[F9]at hr2;exact⟨_,_,hr2.1,.inr rfl⟩
variable{ops:bl}{rest:bt}{o:Oz}{a:OA}{w0:FC}{Q:Exit->aJ}{rs:ae}{ss:O1}
def UR{j:Nat}(hm:Own w0 w rs ss){bytes:Nat}(ho:o.op=.call {callee:=.builtin .append,args:=#[x,y],argTypes:=#[t,t]})(he:Gv P t e i z bytes)
  {v:NY}(hx:a.eval x=v)(hj:ss[j]?=some (v,e,xs))(hy:a.eval y=sv)(hs:Src w sv news)(h1:∀u∈news,u.oneCell'=true)(hb:(xs.length+news.length)*bytes<=140737488355328)(hb0:xs.length+news.length<=140737488355328)(hq:e<Ey:=by exact N8):
  ∃ad c w',(execOp a.eval o).run P w=.ok (.value (.slice ad (xs.length+news.length) c)) w'/\Own w0 w' rs (ss.set j (.slice ad (xs.length+news.length) c,e,xs++news)):=by
 have hown:=hm.get j hj;obtain⟨ad,c,w',hr,h2,h3,h4⟩:=Rx (ty:=o.type) he hown hs h1 KJ hb hm.below.size;refine⟨ad,c,w',?_,hm.Fi j hj (by rw[aV];exact h2) h3 h4⟩;exact tp
def QC(j:Nat)(hm:Own w0 w rs ss)(hgd:MZ o ops a){bytes:Nat}(ho:o.op=.call {callee:=.builtin .append,args:=#[x,y],argTypes:=#[t,t]})(he:Gv P t e i z bytes)
  {v:NY}(hx:a.eval x=v)(hj:ss[j]?=some (v,e,xs))(hy:a.eval y=sv)(hs:Src w sv news)(h1:∀u∈news,u.oneCell'=true)(hb:(xs.length+news.length)*bytes<=140737488355328)(hb0:xs.length+news.length<=140737488355328)
  (h:∀ad c w',Own w0 w' rs (ss.set j (.slice ad (xs.length+news.length) c,e,xs++news))->wpList P ops Q rest (a.put o.dst (.slice ad (xs.length+news.length) c)) w')(hq:e<Ey:=by exact N8):wpList P ops Q (o::rest) a w:=by
 obtain⟨ad,c,w',hr,h2⟩:=UR (P:=P) hm ho he hx hj hy hs h1 hb hb0 hq;exact A8 hgd hr (h ad c w' h2)
def Qo{bytes:Nat}(ho:o.op=.buildSlice t 1 #[(0,x)])(he:Gv P t e i z bytes){v:NY}(hx:a.eval x=v)(hv:v.cells=#[v]):
  (execOp a.eval o).run P w=.ok (.value (.slice (some ⟨w.heap.size,0,none⟩) 1 1)) (w.alloc (.cells #[v] e)):=by
 have hz:(zeroValue e).run P w=.ok z w:=by simp[zeroValue,typeInfo,he.info,he.zero]
 unfold execOp;simp only[ho,Instr.buildSlice,aL,bL he.under,aS,sizeOf,typeInfo,jL,he.info,cM,bT,bZ,hx];have hr:Array.range 1=#[0]:=FU
 simp[Instr.fill,hv,he.size,newRow,hz,Result.andThen,hr]
def QB(hm:Own w0 w rs ss)(hgd:MZ o ops a){bytes:Nat}(ho:o.op=.buildSlice t 1 #[(0,x)])(he:Gv P t e i z bytes){v:NY}(hx:a.eval x=v)(hv:v.cells=#[v])
  (h:∀w' g,Own w0 w' ((g,#[v])::rs) ss->wpList P ops Q rest (a.put o.dst (.slice (some ⟨g,0,none⟩) 1 1)) w'):wpList P ops Q (o::rest) a w:=
 A8 hgd (Qo ho he hx hv) (h _ _ (hm.alloc #[v] e))
def Src.one{v:NY}(h:AA w g #[v]):Src w (.slice g 1 1) [v]:=
 Src.io h 0 1 1 [v] rfl (λj u hj=>by
  cases j with
 |zero=>simpa using hj
 |succ j=>simp at hj)
def Ar(hm:Own w0 w rs ss)(hgd:MZ o ops a)(ho:o.op=.box ty x)(hx:a.eval x=.agg cs)
  (h:∀w' g,Own w0 w' ((g,cs)::rs) ss->wpList P ops Q rest (a.put o.dst (.pointer (some ⟨g,0,none⟩))) w'):wpList P ops Q (o::rest) a w:=by
 have hrun:(execOp a.eval o).run P w=.ok (.value (.pointer (some ⟨w.heap.size,0,none⟩))) (w.alloc (.cells cs ty)):=by
  unfold execOp;simp only[ho,hx,Instr.box,newVar,newRow,Value.cells,aL,bw];rfl
 exact A8 hgd hrun (h _ _ (hm.alloc cs ty))
def AL(hm:Own w0 w rs ss)(hgd:MZ o ops a)(ho:o.op=.alloc ty)(hz:∀w,(zeroValue ty).run P w=.ok (.agg cs) w)
  (h:∀w' g,Own w0 w' ((g,cs)::rs) ss->wpList P ops Q rest (a.put o.dst (.pointer (some ⟨g,0,none⟩))) w'):wpList P ops Q (o::rest) a w:=by
 have hrun:(execOp a.eval o).run P w=.ok (.value (.pointer (some ⟨w.heap.size,0,none⟩))) (w.alloc (.cells cs ty)):=by
  exact Id
 exact A8 hgd hrun (h _ _ (hm.alloc cs ty))
def AY(i:Nat)(hm:Own w0 w rs ss)(hgd:MZ o ops a)(ho:o.op=.store ty x y)(hx:a.eval x=.pointer g){vs:ai}(hy:a.eval y=.agg vs)
  (hi:rs[i]?=some (g,cs))(ht:Aq P ty vs.size)(hs:vs.size=cs.size)(h1:∀v∈vs,v.oneCell'=true)
  (h:∀w',Own w0 w' (rs.set i (g,vs)) ss->wpList P ops Q rest (a.put o.dst undef) w'):wpList P ops Q (o::rest) a w:=by
 have hrun:=Gn (P:=P) (off:=0) ho hx hy (hm.row i hi) ht rfl FP h1;rw[pY cs vs hs]at hrun;exact FN hgd hrun (h _ (hm.setRow i vs hi))
def Cy(i:Nat)(hm:Own w0 w rs ss)(hgd:MZ o ops a)(ho:o.op=.store ty x y)(hx:a.eval x=.pointer (some ⟨g,off,none⟩)){vs:ai}(hy:a.eval y=.agg vs)
  (hi:rs[i]?=some (g,cs))(ht:Aq P ty vs.size)(hf:off+vs.size<=cs.size)(h1:∀v∈vs,v.oneCell'=true)(hn:splice cs off vs=ns)
  (h:∀w',Own w0 w' (rs.set i (g,ns)) ss->wpList P ops Q rest (a.put o.dst undef) w'):wpList P ops Q (o::rest) a w:=by
 have hrun:=Gn (P:=P) (off:=off) ho hx hy (hm.row i hi) ht rfl hf h1;rw[hn]at hrun;exact FN hgd hrun (h _ (hm.setRow i ns hi))
def BL(i:Nat)(hm:Own w0 w rs ss)(hgd:MZ o ops a)(ho:o.op=.store ty x y)(hx:a.eval x=.pointer (some ⟨g,off,none⟩)){v:NY}(hy:a.eval y=v) 
  (hi:rs[i]?=some (g,cs))(ht:ET P ty)(hf:off<cs.size)(hc:v.cells=#[v])(h1:v.oneCell'=true)(hn:cs.setIfInBounds off v=ns)
  (h:∀w',Own w0 w' (rs.set i (g,ns)) ss->wpList P ops Q rest (a.put o.dst undef) w'):wpList P ops Q (o::rest) a w:=by
 have hr:=hm.row i hi;have hcell:w.cell? ⟨g,off,none⟩=some cs[off]:=by rw[hr.cell];simp[hf]
 have hst:(store ⟨g,off,none⟩ v).run P w=.ok () (w.setCell ⟨g,off,none⟩ v):=by
  rw[run_store P w _ v _ h1,hcell];simp[hr.free off]
 have hrun:(execOp a.eval o).run P w=.ok .skip (w.setCell ⟨g,off,none⟩ v):=by
  cases hq:P.info? ty with
 |none=>have:=ht.2;simp[hq]at this
 |some i=>
   exact EQ
 refine FN hgd hrun (h _ ?_);rw[<-hn];exact hm.setCell i off v hi
end
def Src.below{w:FC}{v:NY}(h:Src w v xs)(hb:Below w.heap.size w w'):Src w' v xs:=by
 rcases h with h|⟨ad,c,rfl,hc⟩
 .exact .inl h
 .exact .inr ⟨ad,c,rfl,λj u hj=>by
   have hj':=hc j u hj;have hlt:=iK hj'
   exact(hb.cell hlt).trans hj'⟩
section
variable{P:O8}{w:FC}{o:Oz}{a:OA}
def Am{bytes:Nat}(ho:o.op=.indexAddr t x y)(he:Gv P t e i z bytes)(hx:a.eval x=.slice (some ad) n c)(hy:a.eval y=.int q zz)(hz:zz=k)(hk:k<n):
  (execOp a.eval o).run P w=.ok (.value (.pointer (some (ad.add k)))) w:=by
 subst hz;unfold execOp;simp only[ho,hx,hy,Instr.indexAt,asIntOf,aL,bw,aS,bL he.under];simp[show(k:Int)<(n:Int) by omega,sizeOf,typeInfo,he.info,he.size]
def AU(ho:o.op=.load ty x)(hx:a.eval x=.pointer (some ad)){v:NY}
  (ht:ET P ty)(hc:w.cell? ad=some v):(execOp a.eval o).run P w=.ok (.value v) w:=by
 unfold execOp;simp only[ho,hx,Instr.loadAt,Instr.sureAddr,aL,bw,aS,loadVar,ht.1,lU,jq,run_load,hc]
end
def m5{P:O8}{w:FC}{o:Oz}{a:OA}{d:O4}(ho:o.op=.convert s d x)(hs:P.underlying s=some (.slice e))(he:P.underlying e=some (.int .u8))(hd:P.underlying d=some .string)
  {v:NY}(hx:a.eval x=v)(hv:Src w v (vs .u8 l)):(execOp a.eval o).run P w=.ok (.value (.string (str l))) w:=by
 rcases hv with⟨rfl,h0⟩|⟨A,c,rfl,hc⟩
 .have hl:l=[]:=by simpa[vs]using h0
  subst hl;exact KB ho hs he hd (l:=[]) hx (λ_=>rfl) (λA h=>by cases h)
 .rw[Ai]at hx;exact KB ho hs he hd hx (λh=>by cases h) (λA' h j u hj=>by cases h;exact hc j u hj)
def kN{P:O8}{ops:bl}{rest:bt}{o:Oz}{a:OA}{w:FC}{Q:Exit->aJ}(hg:MZ o ops a)
  (h:∀K:aJ,(∀a w,wpList P ops Q rest a w->K a w)->o.wp P a w K Q):wpList P ops Q (o::rest) a w:=
 wpList_step λK hK=>by rw[aQ hg];exact h K hK
abbrev RB(w:FC)(v:NY)(x:Ending)(w':FC):Prop:=x=.returned v/\Below w.heap.size w w'
abbrev RW(w:FC)(v:NY)(x:Ending)(w':FC):Prop:=x=.returned v/\w'=w
abbrev RO(v:NY)(w0:FC)(rs:ae)(ss:O1)(x:Ending)(w':FC):Prop:=x=.returned v/\Own w0 w' rs ss
end
end Go.Proofs.YtkpbhdhkdonghaaGreat
