/- Part 9 of the proof. -/
import Derived.Test.YtkpbhdhkdonghaaGreatS04
import Derived.Test.YtkpbhdhkdonghaaGreatS08
set_option linter.all false
set_option maxHeartbeats 2000000
set_option maxRecDepth 100000
namespace Go.Proofs.YtkpbhdhkdonghaaGreat
open Go Tryz Go.RowKit
def Md:∃i,Gv prog 22 5 i (.int .u8 0) 1:=Gv.ex underlying22 FZ rfl
def nR:∃i,Gv prog 124 3 i (.int .i64 0) 8:=Gv.ex underlying124 FZ rfl
def Yl{v:NY}(h:v.oneCell'=true):∀u∈[v],u.oneCell'=true:=by
 intro u hu;rw[fC.1 hu];exact h
def In(k:Ob)(w:FC)(v:NY)(b:ac):Prop:=∃ad c,v=.slice ad b.length c/\(∀i,i<b.length->∃A,ad=some A/\w.cell? (A.add i)=some (.int k (gi b i)))
def In.below{k:Ob}{w w':FC}{v:NY}{b:ac}(h:In k w v b)(hb:Below w.heap.size w w'):In k w' v b:=by
 obtain⟨ad,c,rfl,hc⟩:=h;refine⟨ad,c,rfl,λi hi=>?_⟩;exact IP
open Go Go.RowKit
section
variable{k:Ob}{b l:ac}{c h i n:Nat}{x:O7}{ad:Ov}{hi lo:Option Operand}{e t:O4}{z:NY}{w':FC}
def cC(k:Ob)(w:FC)(v:NY)(b:ac):Prop:=∃ad c,v=.slice ad b.length c/\b.length<=c/\(∀i,i<b.length->∃A,ad=some A/\w.cell? (A.add i)=some (.int k (gi b i)))
def cC.zu{w:FC}{v:NY}(h:cC k w v b):In k w v b:=by
 obtain⟨ad,c,h1,_,h2⟩:=h;exact⟨ad,c,h1,h2⟩
def cC.ie{w:FC}{v:NY}(h:cC k w v b)(hb:b≠[]\/v=.slice none 0 0):Src w v (vs k b):=by
 obtain⟨ad,c,rfl,_,h2⟩:=h;by_cases h0:b.length=0
 .obtain rfl:=rC h0;rcases hb with hb|hb
  .exact absurd rfl hb
  .exact .inl ⟨hb,rfl⟩
 .obtain⟨A,rfl,_⟩:=h2 0 FP;refine .inr ⟨A,c,by rw[Ai],λj u hj=>?_⟩
  have hlt:j<b.length:=by
   have:=(gI.1 hj).1;rwa[Ai]at this
  obtain⟨A',hA',hc⟩:=h2 j hlt;obtain rfl:A=A':=by injection hA'
  rw[hc,<-hj];simp[vs,gi,fU,fe hlt]
def cC.below{w:FC}{v:NY}(h:cC k w v b)(hb:Below w.heap.size w w'):cC k w' v b:=by
 obtain⟨ad,c,rfl,h1,hc⟩:=h;refine⟨ad,c,rfl,h1,λi hi=>?_⟩;exact IP
def seg(l:ac)(i k:Nat):ac:=(l.take k).drop i
def AeL{k:Nat}(h:i<=k):l.drop i=seg l i k++l.drop k:=by
 rw[seg];have e:(l.take k++l.drop k).drop i=l.drop i:=by rw[kC]
 by_cases hk:k<=l.length
 .rw[<-e,uD H9]
 .rw[jC FP,Fe (l:=l) (i:=k) FP,fF]
def QJ{k:Nat}(h:k<=l.length):(seg l i k).length=k-i:=by
 rw[seg,dQ,fZ];omega
def zS{k j:Nat}(hk:k<=l.length)(hj:j<k-i):gi (seg l i k) j=gi l (i+j):=by
 have h1:j<(seg l i k).length:=by rw[QJ hk];exact hj
 simp[gi,seg,fU,qB,show i+j<k by omega]
def D8(ad:Ov)(c i:Nat):Option Addr:=if c=i then ad else ad.map (·.add i)
def cC.sub{w:FC}(h:cC k w (.slice ad n c) b){j:Nat}(hij:i<=j)(hj:j<=n):cC k w (.slice (D8 ad c i) (j-i) (c-i)) (seg b i j):=by
 obtain⟨ad',c',e,h1,h2⟩:=h;injection e with e1 e2 e3;subst e1 e2 e3;refine⟨_,_,by rw[QJ hj],by rw[QJ hj];omega,λq hq=>?_⟩;rw[QJ hj]at hq;obtain⟨A,rfl,hA⟩:=h2 (i+q) FP;have hA2:(A.add i).add q=A.add (i+q):=by rw[Addr.add_add]
 refine⟨A.add i,by rw[D8,aP FP];rfl,?_⟩;rw[hA2,hA,zS hj hq]
section
variable{P:O8}{w:FC}{o:Oz}{a:OA}
def A04{i:Oy}{bytes:Nat}(he:Gv P t e i z bytes){lo hi:Option Value}{l:Nat}
  (hlo:(lo=none/\l=0)\/∃q,lo=some (.int q l))(hhi:(hi=none/\h=n)\/∃q,hi=some (.int q h))(h1:l<=h)(h2:h<=c):
  (Instr.sliceAt t (.slice ad n c) lo hi none).run P w=.ok (.slice (D8 ad c l) (h-l) (c-l)) w:=by
 have hl0:(0:Int)<=l:=FP
 have hh0:(0:Int)<=h:=FP
 have hlh:(l:Int)<=h:=FP
 have hhc:(h:Int)<=c:=FP
 unfold Instr.sliceAt;rw[aL,bL he.under];simp only[aS];unfold Instr.slice;rw[aL,bL he.under];simp only[aS]
 rcases hlo with⟨rfl,rfl⟩|⟨q1,rfl⟩<;>rcases hhi with⟨rfl,rfl⟩|⟨q2,rfl⟩<;>
  simp[Instr.sliceBounds,Instr.sliceBound,asIntOf,sizeOf,typeInfo,he.info,he.size,D8,h1,h2,Result.andThen]
def ew{i:Oy}{bytes:Nat}(ho:o.op=.slice t x lo hi none)(he:Gv P t e i z bytes)(hx:a.eval x=.slice ad n c){l:Nat}
  (hlo:(lo.map a.eval=none/\l=0)\/∃q,lo.map a.eval=some (.int q l))(hhi:(hi.map a.eval=none/\h=n)\/∃q,hi.map a.eval=some (.int q h))(h1:l<=h)(h2:h<=c):
  (execOp a.eval o).run P w=.ok (.value (.slice (D8 ad c l) (h-l) (c-l))) w:=by
 unfold execOp;simp only[ho,hx,aL,xZ,A04 he hlo hhi h1 h2,aS,bw]
end
end
section
variable{a b:Int}{k:Ob}{l m:ac}{w:FC}
def J(k:Ob)(l:ac):ai:=(vs k l).toArray
def Df:(J k l).size=l.length:=by simp[J,vs]
def XC(k:Ob)(l:ac)(i:Nat)(h:i<l.length):(J k l)[i]?=some (.int k (gi l i)):=by simpa[J]using Fg k l i h
def Y0(k:Ob)(l:ac)(i:Nat)(x:Int):(J k l).setIfInBounds i (.int k x)=J k (l.set i x):=by
 simp[J,vs,List.map_set]
def J_one:∀v∈J k l,v.oneCell'=true:=λv hv=>Ic k l v (by simpa[J]using hv)
def W32(x:Int):Prop:=0<=x/\x<=4294967295
def Rj(op:BinOp):W32 (bits op .u32 a b):=⟨(bits_within op .u32 a b).1,(bits_within op .u32 a b).2⟩
def wO:∃i,Gv prog 34 22 i (.slice none 0 0) 24:=Gv.ex underlying34 FZ rfl
def iO:ET prog 22:=⟨λw=>FZ,FZ⟩
def A9:ET prog 72:=⟨λw=>FZ,FZ⟩
def A2N:Aq prog 219 256:=Aq.mk' underlying219 rfl FZ
def gU(w:FC):(zeroValue 219).run prog w=.ok (.agg (J .u32 zeros)) w:=FZ
def mv(h:l.length=256):Aq prog 219 (J .u32 l).size:=by rw[Df,h];exact A2N
def a0D(h:l.length=256)(k:m.length=256):(J .u32 l).size=(J .u32 m).size:=by rw[Df,Df,h,k]
def cst(x:Int):Int:=bits .xor .u32 (x/2) (3988292384*bits .and .u32 x 1%4294967296)
def ne:Nat->Int->Int
|0,x=>x
|k+1,x=>cst (ne k x)
def UY(b:Int):Int:=ne 8 b
def a13{b:Int}(h0:0<=b)(h1:b<256):∀k,W32 (ne k b)
|0=>⟨h0,by show b<=_;omega⟩
|k+1=>by show W32 (cst _);exact Rj _
def wV(h0:0<=b)(h1:b<256):ak 184 #[.int .u8 b] w (RB w (.int .u32 (UY b))):=by
 have hW:=λk=>a13 h0 h1 k;go_enter func184,ntmps184
 go_wp2_with fail
 go_loopw[3,6] (λc u wr=>∃(k:Nat),k<=8/\u=.int .i64 k/\c=.int .u32 (ne k b)/\wr=w) (λ_ u _=>8-(intOf u).toNat)
 case atStart=>exact⟨0,FP,rfl,rfl,rfl⟩
 case round=>
  obtain⟨k,hk,rfl,rfl,rfl⟩:=hrel;by_cases hlt:k<8
  .have hx:=hW k;have e:cst (ne k b)=ne (k+1) b:=rfl;have HE:=aa e;clear e hW;obtain⟨hx0,hx1⟩:=hx;generalize ne k b=x at*
   go_wp2_with fail
   go_roundw
   case rel=>exact⟨k+1,FP,by go_num,by rw[<-HE.o];rfl,trivial⟩
   case measure=>simp[intOf];omega
  .obtain rfl:k=8:=FP
   go_wp2;go_ret;exact⟨rfl,Below.refl _ _⟩
def Jo(k:Nat):ac:=(List.range 256).map λi=>if i<k then UY i else 0
def Il(k:Nat):(Jo k).length=256:=by simp[Jo]
def nT(k:Nat):(Jo k).set k (UY k)=Jo (k+1):=by
 apply lI;intro i;by_cases hi:i<256
 .by_cases hik:k=i
  .subst hik;simp[Jo,hi]
  .rw[Dv hik];simp only[Jo,jH,kY hi,jE];by_cases h2:i<k
   .rw[aQ h2,aQ FP]
   .rw[aP h2,aP FP]
 .rw[iQ (by simp[Jo];omega),iQ (by simp[Jo];omega)]
def a1p:zeros=Jo 0:=by decide+kernel
def A0f(i:Nat)(h:i<256):gi (Jo 256) i=UY i:=by simp[gi,Jo,h]
def TM:ak 147 #[] w (RB w (.agg (J .u32 (Jo 256)))):=by
 go_enter func147,ntmps147;have hm:=Own.nil w
 go_wp2_with(first
 |refine AL hm rfl rfl gU ?_;intro w1 g hm1;clear hm)
 rw[a1p]at hm1
 go_loopw[2] (λu wr=>∃k:Nat,k<=256/\u=.int .i64 k/\Own w wr [(g,J .u32 (Jo k))] []) (λu _=>256-(intOf u).toNat)
 case atStart=>exact⟨0,FP,rfl,hm1⟩
 case round=>
  obtain⟨k,hk,rfl,hmr⟩:=hrel;clear hm1;by_cases hlt:k<256
  .have CR:Hid (∀w,ak 184 #[.int .u8 k] w (RB w (.int .u32 (UY k)))):=λw=>wV FP FP;have HS:=aa (nT k);have hc:k<(J .u32 (Jo k)).size:=by rw[Df,Il];exact hlt
   generalize UY k=x at*
   go_wp2_with(first
   |(go_at_call 184;have _t:=hmr;refine(CR.o _).mono ?_;rintro e w2⟨rfl,hb2⟩;have hm2:=hmr.call hb2;clear hmr)
   |refine BL (v:=.int .u32 x) 0 hm2 rfl rfl rfl rfl rfl A9 hc rfl rfl (Y0 .u32 (Jo k) k x) ?_;intro w3 hm3;simp only[List.set]at hm3;clear hm2)
   rw[HS.o]at hm3;exact KV
  .obtain rfl:k=256:=FP
   go_wp2_with(first
   |refine Ag rfl rfl rfl (hmr.row 0 rfl) (mv (Il 256)) ?_
   |refine AY 0 hmr rfl rfl rfl rfl rfl (mv (Il 256)) rfl J_one ?_;intro w3 hm3;simp only[List.set]at hm3;clear hmr)
   refine aD (AQ rfl rfl (hm3.row 0 rfl) (mv (Il 256))) rfl ⟨rfl,hm3.below⟩
def j8(w:FC)(v:NY)(ps:List ac):Prop:=∃ad c,v=.slice ad ps.length c/\∀i(h:i<ps.length),∃A u,ad=some A/\w.cell? (A.add i)=some u/\In .u8 w u ps[i]
def my(c b:Int):Int:=bits .xor .u32 (UY (bits .xor .u8 (c%256) b)) (c/256)
def fd(c:Int)(l:ac):Int:=l.foldl my c
def fds(c:Int)(ps:List ac):Int:=ps.foldl fd c
def Vq(c:Int){k:Nat}(h:k<l.length):fd c (l.take (k+1))=my (fd c (l.take k)) (gi l k):=by
 rw[FQ l k h,fd,lG];rfl
def wG(c:Int){ps:List ac}{k:Nat}(h:k<ps.length):fds c (ps.take (k+1))=fd (fds c (ps.take k)) ps[k]:=by
 rw[kW h,fds,lG];rfl
def aG:∀(l:ac)(c:Int),W32 c->W32 (fd c l)
|[],_,h=>h
|b::l,c,_=>aG l (my c b) (Rj _)
def bS(c:Int):Int:=bits .xor .u32 IntKind.u32.max c
def crc(c:Int)(ps:List ac):Int:=bS (fds (bS c) ps)
def M7:∀(ps:List ac)(c:Int),W32 c->W32 (fds c ps)
|[],_,h=>h
|p::ps,c,h=>M7 ps (fd c p) (aG p c h)
def nV(c:Int){v:NY}(ps:List ac)(hv:j8 w v ps)(hb:∀p∈ps,p.length<=1000000000)(hn:ps.length<=1000):ak 107 #[.int .u32 c,v] w (RB w (.int .u32 (crc c ps))):=by
 obtain⟨ad,cp,rfl,hcells⟩:=hv;obtain⟨i34,hE34⟩:=wO;obtain⟨i5,hE5⟩:=Md;have HE:=aa hE34;have HE5:=aa hE5;have HC:=aa hcells;have HB:=aa hb;have HW:Hid (∀ps,W32 (fds (bS c) ps)):=λps=>M7 ps _ (Rj _);clear hE34 hE5 hcells hb;go_enter func107,ntmps107;have hm:=Own.nil w
 go_wp2_with(first
 |(go_at_call 147;have _t:=hm;refine(TM).mono ?_;rintro e w1⟨rfl,hb1⟩;have hm1:=hm.call hb1;clear hm)
 |refine AL hm1 rfl rfl gU ?_;intro w2 g hm2;clear hm1
 |refine AY 0 hm2 rfl rfl rfl rfl rfl (mv (Il 256)) (a0D (Il 256) DK) J_one ?_;intro w3 hm3;simp only[List.set]at hm3;clear hm2)
 go_loopw[0,15] (λz u wr=>∃k:Nat,k<=ps.length/\u=.int .i64 k/\z=.int .u32 (fds (bS c) (ps.take k))/\Own w wr [(g,J .u32 (Jo 256))] []) (λ_ u _=>ps.length-(intOf u).toNat)
 case atStart=>exact⟨0,FP,rfl,rfl,hm3⟩
 case round=>
  obtain⟨k,hk,rfl,rfl,hmr⟩:=hrel;clear hm3;by_cases hlt:k<ps.length
  .obtain⟨A,u,rfl,hA0,hin⟩:=HC.o k hlt;obtain⟨a2,c2,rfl,hcs⟩:=hin;have hA:wr.cell? (A.add k)=some (.slice a2 ps[k].length c2):=(hmr.below.cell (iK hA0)).trans hA0;have HS:=aa (wG (bS c) hlt);have hlk:=HB.o _ (dF hlt);have HWk:=aa (HW.o (ps.take k));have HP:=aa hcs;clear hcs hA0;generalize fds (bS c) (ps.take k)=x at*;generalize ps[k]=p at*
   go_wp2_with(first
   |refine A8 rfl (Am rfl HE.o rfl rfl rfl hlt) ?_
   |refine A8 rfl (AU rfl rfl iO hA) ?_)
   go_loopw[0,21] (λz u wq=>∃j:Nat,j<=p.length/\u=.int .i64 j/\z=.int .u32 (fd x (p.take j))/\Own w wq [(g,J .u32 (Jo 256))] []) (λ_ u _=>p.length-(intOf u).toNat)
   case atStart=>exact⟨0,FP,rfl,rfl,hmr⟩
   case round=>
    obtain⟨j,hj,rfl,rfl,hmq⟩:=hrel;clear hmr hA;by_cases hlt2:j<p.length
    .obtain⟨B,rfl,hB0⟩:=HP.o j hlt2;have hB:wr.cell? (B.add j)=some (.int .u8 (gi p j)):=(hmq.below.cell (iK hB0)).trans hB0;have HT:=aa (Vq x hlt2);have hw:=aG (p.take j) x HWk.o;obtain⟨hw0,hw1⟩:=hw;clear hB0;generalize fd x (p.take j)=y at*;generalize gi p j=b at*;have hz:=bits_within .xor .u8 (y%256) b;obtain⟨n,hn⟩:=dB hz.1;have hn2:n<256:=by have h:=hz.2;rw[hn]at h;have:IntKind.u8.max=255:=rfl;omega
     have hg:(J .u32 (Jo 256))[n]?=some (.int .u32 (UY (bits .xor .u8 (y%256) b))):=by rw[XC _ _ n (by rw[Il];exact hn2),A0f n hn2,hn]
     have hcu:my y b=bits .xor .u32 (UY (bits .xor .u8 (y%256) b)) (y/256):=rfl;rw[hcu]at HT;rw[hn]at hg HT;generalize UY (n:Int)=t at*;clear hz hcu
     go_wp2_with(first
     |refine A8 rfl (Am rfl HE5.o rfl rfl rfl hlt2) ?_
     |refine A8 rfl (AU rfl rfl FV hB) ?_
     |refine A8 rfl (Aa (off:=n) rfl rfl (hmq.row 0 rfl) A9 hg) ?_)
     go_roundw
     case rel=>exact⟨j+1,FP,by go_num,by rw[HT.o],hmq⟩
     case measure=>simp[intOf];omega
    .obtain rfl:p.length=j:=FP
     rw[gY,<-HS.o];go_wp2;go_roundw
     case rel=>exact⟨k+1,FP,by go_num,rfl,hmq⟩
     case measure=>simp[intOf];omega
  .obtain rfl:ps.length=k:=FP
   rw[gY];have HX:Hid (crc c ps=bS (fds (bS c) ps)):=aa rfl;generalize fds (bS c) ps=x at*;go_wp2;go_ret;exact⟨by rw[HX.o];rfl,hmr.below⟩
def jM{v:NY}(ps:List ac)(hv:j8 w v ps)(hb:∀p∈ps,p.length<=1000000000)(hn:ps.length<=1000):ak 48 #[v] w (RB w (.int .u32 (crc 0 ps))):=by
 have CF:=aa (nV 0 ps hv hb hn);clear hv hb hn;go_enter func48,ntmps48;have hm:=Own.nil w
 go_wp2_with(first
 |(go_at_call 107;have _t:=hm;refine CF.o.mono ?_;rintro e w1⟨rfl,hb1⟩;have hm1:=hm.call hb1;clear hm))
 go_ret;exact ow
end
section
variable{a:OA}{b:Bool}{r:Int}{l m:ac}{s t:ar}{i:Nat}{o:Oz}{x y:O7}{P:O8}{e t' ty:O4}{u:NY}{w:FC}
def X(l:ac)(t:ar):ai:=(vs .u8 l++t).toArray
def Rq:(X l t).size=l.length+t.length:=by simp[X,Ai]
def Dr(l:ac)(h:∀v∈t,v.oneCell'=true):∀v∈X l t,v.oneCell'=true:=by
 intro v hv;have hv:v∈vs .u8 l++t:=by simpa[X]using hv
 rcases dG.1 hv with hv|hv
 .exact Ic .u8 l v hv
 .exact h v hv
def VH(t:ar)(hl:l.length=256):(X l t).extract 0 256=B l:=by
 apply qF;have h:(vs .u8 l).length=256:=by rw[Ai,hl]
 simp[X,B,h]
def Zc(t:ar)(hl:l.length=256)(i:Nat):(X l t)[256+i]?=t[i]?:=by
 have h:(vs .u8 l).length=256:=by rw[Ai,hl]
 simp only[X,jI];rw[lW FP,h,qZ]
def A2r(t:ar)(hl:l.length=256)(hi:i<256):(X l t)[i]?=some (.int .u8 (gi l i)):=by
 have h:(vs .u8 l).length=256:=by rw[Ai,hl]
 simp only[X,jI];rw[kF FP,Fg .u8 l i FP]
def Th(hl:l.length=256)(hm:m.length=256):splice (X l t) 0 (B m)=X m t:=by
 apply qF;have h:(vs .u8 l).length=256:=by rw[Ai,hl]
 have h2:(vs .u8 m).length=256:=by rw[Ai,hm]
 have e:(X l t).toList.drop (0+(B m).size)=t:=by
  rw[Ih,hm];show(vs .u8 l++t).drop (0+256)=t;rw[dA,<-h,BQ]
 simp only[splice,e];simp[X,B]
def rM(t:ar)(hl:l.length=256)(i:Nat)(v:NY):(X l t).setIfInBounds (256+i) v=X l (t.set i v):=by
 apply qF;have h:(vs .u8 l).length=256:=by rw[Ai,hl]
 simp only[X,lY];rw[ru _ _ FP,h,qZ]
def Vg(t:ar)(ht:Aq P ty 256)(hl:l.length=256):(part ty (X l t) 0).run P w=.ok (.agg (B l)) w:=by
 cases hq:P.info? ty with
|none=>have:=ht.size;simp[hq]at this
|some i=>
  have hs:i.size=256:=by have:=ht.size;simpa[hq]using this
  simp[part,ht.agg,sizeOf,typeInfo,hq,hs,VH t hl]
def Vh(ht:ET P ty)(hl:l.length=256){j:Nat}{v:NY}(hj:j=256+i)(hv:t[i]?=some v):(part ty (X l t) j).run P w=.ok v w:=by
 subst hj;simp[part,ht.1,Zc t hl,hv]
def bH{d:Nat}{f:Field}{fs:List Field}(hn:f.name≠ "_")(ho:f.offset=0)(ht:Aq P f.type 256){i:Oy}(hu:P.underlying f.type=some (.array 256 e))(he:P.underlying e=some (.int .u8))(hi:P.info? e=some i)(hc:P.cellsOf e=1)
  (hl:l.length=256)(hm:m.length=256)(hr:(Op.eqFields (d+2) (X l s) (X m t) fs).run P w=.ok b w):
  (Op.eqFields (d+2) (X l s) (X m t) (f::fs)).run P w=.ok ((l==m)&&b) w:=by
 have h:=Gj (P:=P) (w:=w) d hu he hi hc l m hl hm;simp only[Op.eqFields,ne_eq,hn,zZ,fP,ho,aL,Vg s ht hl,Vg t ht hm,aS];rw[show(Op.equalIn (d+2) f.type (.agg (B l)) (.agg (B m))).run P w=.ok (l==m) w from h];cases hb:(l==m)<;>simp[hr]
def JD{d:Nat}{f:Field}{fs:List Field}(hn:f.name≠ "_")(ht:ET P f.type)(ho:f.offset=256+i){v:NY}(hu:s[i]?=some u)(hv:t[i]?=some v)(hl:l.length=256)(hm:m.length=256)
  {a:Bool}(ha:(Op.equalIn (d+2) f.type u v).run P w=.ok a w)(hr:(Op.eqFields (d+2) (X l s) (X m t) fs).run P w=.ok b w):
  (Op.eqFields (d+2) (X l s) (X m t) (f::fs)).run P w=.ok (a&&b) w:=by
 simp only[Op.eqFields,ne_eq,hn,zZ,fP,aL,Vh ht hl ho hu,Vh ht hm ho hv,aS,ha];cases a<;>simp[hr]
def EV(l:ac)(r:Int):ai:=X l [.int .i64 r]
def WE(r:Int)(hl:l.length=256):(EV l r).size=257:=by rw[EV,Rq,hl];rfl
def XO:Aq prog 268 257:=Aq.mk' underlying268 rfl FZ
def gN(hl:l.length=256):Aq prog 268 (EV l r).size:=by rw[WE r hl];exact XO
def xv:∀v∈EV l r,v.oneCell'=true:=Dr l (λv hv=>by rw[fC.1 hv];rfl)
def yY(hl:l.length=256):(EV l r).extract 0 (0+(B l).size)=B l:=by rw[Ih,hl];exact VH _ hl
def l4(hl:l.length=256):(EV l r)[256]?=some (.int .i64 r):=Zc (l:=l) [.int .i64 r] hl 0
def DD(hl:l.length=256)(hm:m.length=256):splice (EV l r) 0 (B m)=EV m r:=Th hl hm
def FA{s:Int}(hl:l.length=256):(EV l r).setIfInBounds 256 (.int .i64 s)=EV l s:=rM (l:=l) [.int .i64 r] hl 0 (.int .i64 s)
def qo(w:FC):(zeroValue 268).run prog w=.ok (.agg (EV zeros 0)) w:=FZ
def Wz(r s:Int)(w:FC)(hl:l.length=256)(hm:m.length=256):(Op.equalIn 10000 268 (.agg (EV l r)) (.agg (EV m s))).run prog w=.ok ((l==m)&&(r==s)) w:=by
 obtain⟨i5,hi5⟩:=info5;have hf:(prog.fieldsOf 268).toList.map (λf=>(f.name,f.type,f.offset))=[("List",145,0),("Run",3,256)]:=FZ
 rw[Bc w 9999 268 _ _ FZ FZ];generalize (prog.fieldsOf 268).toList=fs at hf⊢;rcases fs with _|⟨f,_|⟨g,_|⟨z,t⟩⟩⟩
 .simp at hf
 .simp at hf
 .simp only[bT,bZ,qE,oz,and_true]at hf;obtain⟨⟨f1,f2,f3⟩,g1,g2,g3⟩:=hf;rw[show(9999:Nat)=9997+2 from rfl]
  have h2:(Op.eqFields (9997+2) (EV l r) (EV m s) [g]).run prog w=.ok ((r==s)&&true) w:=
   JD (l:=l) (m:=m) (s:=[.int .i64 r]) (t:=[.int .i64 s]) (by rw[g1];decide) (by rw[g2];exact DR) (i:=0) (by rw[g3]) rfl rfl hl hm (by rw[g2,um w _ 3 .i64 .i64 r s underlying3]) (by simp[Op.eqFields])
  have h1:=bH (P:=prog) (w:=w) (d:=9997) (f:=f) (fs:=[g]) (s:=[.int .i64 r]) (t:=[.int .i64 s]) (by rw[f1];decide) f3 (by rw[f2];exact ye) (e:=5) (by rw[f2];exact underlying145) underlying5 hi5 FZ hl hm h2;rw[EV,EV];rw[h1,uq]
 .simp at hf
def so(ho:o.op=.binOp .eql 268 x y t'){s:Int}(hx:a.eval x=.agg (EV l r))(hy:a.eval y=.agg (EV m s))(hl:l.length=256)(hm:m.length=256)(hb:((l==m)&&(r==s))=b):
  (execOp a.eval o).run prog w=.ok (.value (.bool b)) w:=by
 subst hb;unfold execOp;simp only[ho,hx,hy,aL,Bf w .eql 268 x y _ _ (FZ:prog.eqGuardType prog.depth 268=false),aS,BM,Wz r s w hl hm,bw]
def VF(t:ar)(hl:l.length=256){places:Nat->Option (Nat×Nat)}(hp:places 0=some (0,256)):Instr.fill places (X zeros t) [(0,.agg (B l))]=some (X l t):=by
 have hB:(B l).size=256:=by rw[Ih,hl]
 have hX:(X zeros t).size=256+t.length:=by rw[Rq,DK]
 simp only[Instr.fill,hp,Value.cells,hB,hX]
 have key:∀(xs:ar)(j:Nat)(pre post:ar),pre.length=j->∀(mid:ar),mid.length=xs.length->
   (xs.zipIdx j).foldl (λ(cs:ai)(c:Value×Nat)=>cs.setIfInBounds (0+c.2) c.1) (pre++mid++post).toArray=(pre++xs++post).toArray:=by
  intro xs
  induction xs with
 |nil=>intro j pre post _ mid hmid;obtain rfl:=rC hmid;simp
 |cons x xs ih=>
   intro j pre post hpre mid hmid
   match mid,hmid with
  |m::mid,hmid=>
    simp only[List.zipIdx_cons,List.foldl_cons,dA]
    have e:(pre++m::mid++post).toArray.setIfInBounds j x=((pre++[x])++mid++post).toArray:=by
     apply qF;simp only[lY];rw[aI,ru _ _ FP,show j-pre.length=0 by omega];simp
    have e2:=ih (j+1) (pre++[x]) post (by simp[hpre]) mid (by simpa using hmid);simp only[dA]at e2;rw[e,e2];simp
 rw[aP G5];have e:=key (vs .u8 l) 0 [] t rfl (vs .u8 zeros) (by rw[Ai,Ai,hl,DK])
 congr 1
 rw[<-Array.foldl_toList,Array.toList_zipIdx];simpa[X,B]using e
def Acr(ho:o.op=.build 268 #[(0,x)])(hx:a.eval x=.agg (B l))(hl:l.length=256):(execOp a.eval o).run prog w=.ok (.value (.agg (EV l 0))) w:=by
 have hz:=qo w
 have hb:prog.built 268 [(0,.agg (B l))]=some (EV l 0):=by
  have hf:(prog.fieldsOf 268).toList.mapM (λf=>(prog.info? f.type).map λi=>(f.offset,i.size))=some [(0,256),(256,1)]:=FZ
  obtain⟨i,hi⟩:∃i,prog.info? 268=some i:=qU.1 FZ
  have hzi:i.zero=some (.agg (EV zeros 0)):=by
   have:=hz;simp[zeroValue,typeInfo,hi]at this;cases hzz:i.zero with
  |none=>simp[hzz]at this
  |some z=>simp[hzz]at this;rw[this]
  unfold Program.built;have hu:prog.underlying 268=some (.struct (prog.fieldsOf 268)):=FZ
  rw[hi,hu];simp only[hzi,hf];exact VF [.int .i64 0] hl rfl
 unfold execOp;simp only[ho,aL,cM,bT,bZ,hx,xQ w 268 _ (EV l 0) hb,aS,bw]
end
section
variable{a:OA}{r:Bool}{n:Int}{l:ac}{t:ar}{i k:Nat}{o:Oz}{x y:O7}{P:O8}{t':O4}{w:FC}
structure DS where
 l:ac
 left:Int
 run:Int
 dig:Int
 fin:Bool
def DS.tl(b:DS):ar:=[.int .i64 b.left,.int .i64 b.run,.int .i64 b.dig,.bool b.fin]
def V(b:DS):ai:=X b.l b.tl
def FT{b:DS}(hl:b.l.length=256):(V b).size=260:=by rw[V,Rq,hl];rfl
def Uq:Aq prog 147 260:=Aq.mk' underlying147 rfl FZ
def BJ{b:DS}(hl:b.l.length=256):Aq prog 147 (V b).size:=by rw[FT hl];exact Uq
def ep{b:DS}:∀v∈V b,v.oneCell'=true:=Dr _ (λv hv=>by
 simp only[DS.tl,dh,qL,qM]at hv
 rcases hv with rfl|rfl|rfl|rfl<;>rfl)
def Ci{b:DS}(hl:b.l.length=256):(V b).extract 0 (0+(B b.l).size)=B b.l:=by rw[Ih,hl];exact VH _ hl
def H8{b:DS}(hl:b.l.length=256):(V b)[256]?=some (.int .i64 b.left):=Zc b.tl hl 0
def H7{b:DS}(hl:b.l.length=256):(V b)[257]?=some (.int .i64 b.run):=Zc b.tl hl 1
def MH{b:DS}(hl:b.l.length=256):(V b)[258]?=some (.int .i64 b.dig):=Zc b.tl hl 2
def Qm{b:DS}(hl:b.l.length=256):(V b)[259]?=some (.bool b.fin):=Zc b.tl hl 3
def Yn{b:DS}(hl:b.l.length=256)(i:Nat)(hi:i<256):(V b)[i]?=some (.int .u8 (gi b.l i)):=A2r b.tl hl hi
def QQ{b:DS}(hl:b.l.length=256):(V b).setIfInBounds 257 (.int .i64 n)=V {b with run:=n}:=rM b.tl hl 1 (.int .i64 n)
def YQ{b:DS}(hl:b.l.length=256):(V b).setIfInBounds 258 (.int .i64 n)=V {b with dig:=n}:=rM b.tl hl 2 (.int .i64 n)
def NG{b:DS}(hl:b.l.length=256):0+(B b.l).size<=(V b).size:=by rw[Ih,FT hl,hl];omega
def Cp{b:DS}(hl:b.l.length=256)(i:Nat)(hi:i<4):256+i<(V b).size:=by rw[FT hl];omega
def BR{b c:DS}(hl:b.l.length=256)(hm:c.l.length=256):(V b).size=(V c).size:=by rw[FT hl,FT hm]
def im:DS:=⟨zeros,0,0,0,false⟩
def BF:im.l.length=256:=DK
def Dc(w:FC):(zeroValue 147).run prog w=.ok (.agg (V im)) w:=FZ
def n9:ET prog 4:=⟨λw=>FZ,FZ⟩
def run_equalIn_bool(w:FC){d:Nat}{t:O4}(ht:P.underlying t=some .bool)(a b:Bool):(Op.equalIn (d+1) t (.bool a) (.bool b)).run P w=.ok (a==b) w:=by
 simp[Op.equalIn,bL ht]
def wQ(b c:DS):Bool:=(b.l==c.l)&&((b.left==c.left)&&((b.run==c.run)&&((b.dig==c.dig)&&(b.fin==c.fin))))
def a0L{b c:DS}(w:FC)(hl:b.l.length=256)(hm:c.l.length=256):(Op.equalIn 10000 147 (.agg (V b)) (.agg (V c))).run prog w=.ok (wQ b c) w:=by
 obtain⟨i5,hi5⟩:=info5;have hf:(prog.fieldsOf 147).toList.map (λf=>(f.name,f.type,f.offset))=[("List",145,0),("Left",3,256),("Run",3,257),("Digits",3,258),("Done",4,259)]:=FZ
 rw[Bc w 9999 147 _ _ FZ FZ];generalize (prog.fieldsOf 147).toList=fs at hf⊢;rcases fs with _|⟨f0,_|⟨f1,_|⟨f2,_|⟨f3,_|⟨f4,_|⟨z,t⟩⟩⟩⟩⟩⟩
 .simp at hf
 .simp at hf
 .simp at hf
 .simp at hf
 .simp at hf
 .simp only[bT,bZ,qE,oz,and_true]at hf;obtain⟨⟨a1,a2,a3⟩,⟨b1,b2,b3⟩,⟨c1,c2,c3⟩,⟨d1,d2,d3⟩,e1,e2,e3⟩:=hf;rw[show(9999:Nat)=9997+2 from rfl,V,V];have h5:(Op.eqFields (9997+2) (X b.l b.tl) (X c.l c.tl) []).run prog w=.ok true w:=by simp[Op.eqFields]
  have h4:=JD (fs:=[]) (f:=f4) (by rw[e1];decide) (by rw[e2];exact n9) (i:=3) (by rw[e3]) (rfl:b.tl[3]?=some (.bool b.fin)) (rfl:c.tl[3]?=some (.bool c.fin)) hl hm (a:=b.fin==c.fin) (by rw[e2];exact run_equalIn_bool w underlying4 b.fin c.fin) h5;have h3:=JD (f:=f3) (by rw[d1];decide) (by rw[d2];exact DR) (i:=2) (by rw[d3]) (rfl:b.tl[2]?=some (.int .i64 b.dig)) (rfl:c.tl[2]?=some (.int .i64 c.dig)) hl hm (by rw[d2,um w _ 3 .i64 .i64 b.dig c.dig underlying3]) h4;have h2:=JD (f:=f2) (by rw[c1];decide) (by rw[c2];exact DR) (i:=1) (by rw[c3]) (rfl:b.tl[1]?=some (.int .i64 b.run)) (rfl:c.tl[1]?=some (.int .i64 c.run)) hl hm (by rw[c2,um w _ 3 .i64 .i64 b.run c.run underlying3]) h3
  have h1:=JD (f:=f1) (by rw[b1];decide) (by rw[b2];exact DR) (i:=0) (by rw[b3]) (rfl:b.tl[0]?=some (.int .i64 b.left)) (rfl:c.tl[0]?=some (.int .i64 c.left)) hl hm (by rw[b2,um w _ 3 .i64 .i64 b.left c.left underlying3]) h2;have h0:=bH (f:=f0) (by rw[a1];decide) a3 (by rw[a2];exact ye) (e:=5) (by rw[a2];exact underlying145) underlying5 hi5 FZ hl hm h1;rw[h0,uq];rfl
 .simp at hf
def dY(ho:o.op=.binOp .eql 147 x y t'){b c:DS}(hx:a.eval x=.agg (V b))(hy:a.eval y=.agg (V c))(hl:b.l.length=256)(hm:c.l.length=256)(hb:wQ b c=r):
  (execOp a.eval o).run prog w=.ok (.value (.bool r)) w:=by
 subst hb;unfold execOp;simp only[ho,hx,hy,aL,Bf w .eql 147 x y _ _ (FZ:prog.eqGuardType prog.depth 147=false),aS,BM,a0L w hl hm,bw]
def KR(l:ac)(hl:l.length=256){places:Nat->Option (Nat×Nat)}(hp:places 0=some (0,256))(rest:List (Nat×Value)):Instr.fill places (X zeros t) ((0,.agg (B l))::rest)=Instr.fill places (X l t) rest:=by
 have h:=VF t hl hp;have hB:(B l).size=256:=by rw[Ih,hl]
 have hX:(X zeros t).size=256+t.length:=by rw[Rq,DK]
 simp only[Instr.fill,hp,Value.cells,hB,hX]at h⊢;rw[aP G5]at h⊢;simp only[oG]at h;rw[h]
def KU(hl:l.length=256){places:Nat->Option (Nat×Nat)}(hp:places k=some (256+i,1))(hi:i<t.length){v:NY}(hv:v.cells=#[v])(rest:List (Nat×Value)):Instr.fill places (X l t) ((k,v)::rest)=Instr.fill places (X l (t.set i v)) rest:=by
 have hX:(X l t).size=256+t.length:=by rw[Rq,hl]
 have hs:=rM t hl i v;simp only[Instr.fill,hp,hv,hX];rw[aP G8]
 congr 1
def jR(w:FC)(parts:List (Nat×Value)){places:List (Nat×Nat)}(hpl:places=[(0,256),(256,1),(257,1),(258,1),(259,1)]):prog.built 147 parts=Instr.fill (places.toArray[·]?) (V im) parts:=by
 subst hpl;have hf:(prog.fieldsOf 147).toList.mapM (λf=>(prog.info? f.type).map λi=>(f.offset,i.size))=some [(0,256),(256,1),(257,1),(258,1),(259,1)]:=FZ
 obtain⟨i,hi⟩:∃i,prog.info? 147=some i:=qU.1 FZ
 have hzi:i.zero=some (.agg (V im)):=by
  have:=Dc w;simp[zeroValue,typeInfo,hi]at this;cases hzz:i.zero with
 |none=>simp[hzz]at this
 |some z=>simp[hzz]at this;rw[this]
 unfold Program.built;have hu:prog.underlying 147=some (.struct (prog.fieldsOf 147)):=FZ
 rw[hi,hu];simp only[hzi,hf];rfl
def TG{parts:Array (Nat×Operand)}(ho:o.op=.build 147 parts){b:DS}(hb:prog.built 147 (parts.map λ(i,x)=>(i,a.eval x)).toList=some (V b)):(execOp a.eval o).run prog w=.ok (.value (.agg (V b))) w:=by
 unfold execOp;simp only[ho,aL,xQ w 147 _ (V b) hb,aS,bw]
def KW(ho:o.op=.build 147 #[(0,x),(1,y)])(hx:a.eval x=.agg (B l))(hy:a.eval y=.int .i64 n)(hl:l.length=256):(execOp a.eval o).run prog w=.ok (.value (.agg (V ⟨l,n,0,0,false⟩))) w:=by
 refine TG ho ?_;rw[jR w _ rfl];simp only[cM,bT,bZ,hx,hy];show Instr.fill _ (X zeros im.tl) _=_;rw[KR l hl rfl,KU (k:=1) (i:=0) hl rfl FU rfl];rfl
def Iu(ho:o.op=.build 147 #[(0,x),(4,y)]){n:Bool}(hx:a.eval x=.agg (B l))(hy:a.eval y=.bool n)(hl:l.length=256):(execOp a.eval o).run prog w=.ok (.value (.agg (V ⟨l,0,0,0,n⟩))) w:=by
 refine TG ho ?_;rw[jR w _ rfl];simp only[cM,bT,bZ,hx,hy];show Instr.fill _ (X zeros im.tl) _=_;rw[KR l hl rfl,KU (k:=4) (i:=3) hl rfl FU rfl];rfl
end
end Go.Proofs.YtkpbhdhkdonghaaGreat
