/- Part 28 of the proof. -/
import Derived.Test.YtkpbhdhkdonghaaGreatS27
set_option linter.all false
set_option maxHeartbeats 16000000
set_option maxRecDepth 100000
namespace Go.Proofs.YtkpbhdhkdonghaaGreat
open Go Tryz Go.RowKit
section
variable{a b ch l x y:ac}{g:Nat}{u:NY}
def fg(x:ac):ac:=nj x.reverse (crc 0 [x])
def gF(n:Nat)(s:ac×ac)(y:Int):ac×ac:=if s.2.length+1=n then(s.1++fg (s.2++[y]),[])else(s.1,s.2++[y])
def gV(n:Nat)(s:ac×ac)(b:ac):ac×ac:=b.foldl (gF n) s
def Jn{n:Nat}(s:ac×ac):gV n s (a++b)=gV n (gV n s a) b:=lG
def E0{n:Nat}:∀(b:ac)(o x:ac),x.length<n->x.length+b.length<=n->gV n (o,x) b=if x.length+b.length=n then(o++fg (x++b),[])else(o,x++b)
|[],o,x,h1,h2=>by rw[aP G8];simp[gV]
|y::b,o,x,h1,h2=>by
  rw[bD]at h2;have e:gV n (o,x) (y::b)=gV n (gF n (o,x) y) b:=rfl;rw[e,gF];by_cases h:x.length+1=n
  .obtain rfl:b=[]:=rC FP;rw[aQ h,aQ GU];rfl
  .rw[aP h,E0 b o (x++[y]) JC JC];simp only[aV,bD,bW,aI,s2]
   congr 1
   apply propext
   constructor<;>intro h<;>omega
def oP(c:Int)(p:ac):0<=crc c [p]/\crc c [p]<=4294967295:=by
 have h:W32 (crc c [p]):=by rw[crc,bS];exact Rj _
 have h0:=h.1;have h1:=h.2;omega
def pB(hx:x.length<=150):(fg x).length<=25900:=by
 have hl:x.reverse.length=x.length:=rX;have hip:=pu x.reverse;have h1:=(ka x.reverse.length FP).1;have h2:=(ka (cF x.reverse).2 FP).1;have h3:(cj (crc 0 [x])).length=4:=rfl;have h4:=RT (c:=(cF x.reverse).1) FP;have h5:=m8 (mI (cF x.reverse).1);rw[fg,nj,mH];simp only[vk,wR,aV,bD,bW];omega
def Ah7{w0 w:FC}{rs:ae}{ss:O1}(hm:Own w0 w ((g,#[u])::rs) ss)(hu:In .u8 w u b):j8 w (.slice g 1 1) [b]:=by
 refine⟨_,_,rfl,λi h=>⟨_,u,rfl,?_,?_⟩⟩
 .obtain rfl:i=0:=by simpa using h
  exact(hm.row 0 rfl).cell 0
 .obtain rfl:i=0:=by simpa using h
  exact hu
def Z1:crc (crc 0 [x]) [y]=crc 0 [x++y]:=by
 have h:W32 (fd (bS 0) x):=aG x _ (Rj _);show bS (fd (bS (bS (fd (bS 0) x))) y)=bS (fd (bS 0) (x++y));rw[pd h,fd,fd,fd,lG]
def mA:crc 0 [[]]=0:=by
 have h:W32 0:=⟨FU,FU⟩;show bS (bS 0)=0;exact pd h
def RH{k:Nat}:seg l 0 k=l.take k:=by rw[seg,wE]
def ZM{k:Nat}:seg l k l.length=l.drop k:=by rw[seg,gY]
def ZO{d:ac}(h:ch.length<=d.length):f9 (x++d) (0+x.length) ch=(x++ch)++d.drop ch.length:=by
 rw[f9,dA,zY rfl,<-xR,List.drop_left' rfl]
def wg:Value->Nat
|.slice _ n _=>n
|_=>0
section
variable{ge ga gs gx n:Nat}{mode:Int}{k c:Nat}{ca:Int}{bg:Bool}{sp:ac}{T:ar}{live peak:Int}{N:Nat}{w0 w:FC}{rs:ae}{ss:O1}
def fo(w0 w:FC)(ge ga gs gx n:Nat)(mode:Int)(k c:Nat)(ca:Int)(bg cl:Bool)(sp:ac)(T:ar)(live peak:Int)(N:Nat)(x:ac)(rs:ae)(ss:O1):Prop:=∃d,(x++d).length=N/\Bytes (x++d)/\x.length<n/\Own w0 w (bB ge ga gs gx n x.length mode k c (crc 0 [x]) ca bg cl sp T live peak N (x++d) rs) ss
def VZ(hE:lh n mode k sp live N){v:NY}(hv:cC .u8 w0 v b)(hb:Bytes b)(hxb:x.length+b.length<=150)(hm:fo w0 w ge ga gs gx n mode k c ca bg false sp T live peak N x rs ss):ak 53 #[ge,v] w λe w'=>∃X v2,e=.returned (.tuple #[v2,.int .i64 0])/\Lies 1 X v2 (gV n (bq n bg,x) b).1.length (vs .u8 (gV n (bq n bg,x) b).1)/\fo w0 w' ge ga gs gx n mode k c (crc ca [b]) true false sp T live peak N (gV n (bq n bg,x) b).2 (X++rs) ss:=by
 obtain⟨d,hN,hB,hxn,hm⟩:=hm;obtain⟨R,hR⟩:∃R,R=gV n (bq n bg,x) b:=⟨_,rfl⟩;rw[<-hR];have CG:Hid (∀W,Own w0 W (bB ge ga gs gx n x.length mode k c (crc 0 [x]) ca bg false sp T live peak N (x++d) rs) ss->ak 111 #[ge] W λe w'=>∃X v,e=.returned (.tuple #[v,.bool true])/\Lies 1 X v (bq n bg).length (vs .u8 (bq n bg))/\Own w0 w' (bB ge ga gs gx n x.length mode k c (crc 0 [x]) ca true false sp T live peak N (x++d) (X++rs)) ss):=λW h=>E1 hE.n1 hE.n2 h;have hs0:(IR .i64 sp T).toList[0]?=some (.int .i64 0):=by rw[cE,kz (by have:=hE.k0;have:=hE.ks;omega),hE.s0]
 have hs1:(IR .i64 sp T).toList[1]?=some (.int .i64 n):=by rw[cE,kz (by have:=hE.k0;have:=hE.ks;omega),hE.s1]
 have HS0:=aa hs0;have HS1:=aa hs1;have hol:=mC hE.n2 bg;have HV:=aa hv
 have CF:Hid (∀W g a u ch R ss,cC .u8 w0 u ch->ch.length<=150->Own w0 W ((g,#[u])::R) ss->ak 107 #[.int .u32 a,.slice (some ⟨g,0,none⟩) 1 1] W (RO (.int .u32 (crc a [ch])) w0 ((g,#[u])::R) ss)):=λW g a u ch R ss hu hl h=>by
  refine(nV a [ch] (Ah7 h (hu.below h.below).zu) (by intro p hp;rw[fC.1 hp];omega) G5).mono ?_;rintro e w'⟨rfl,hb⟩;exact⟨rfl,h.call hb⟩
 obtain⟨ad,cp,hve,_⟩:=hv;subst hve;obtain⟨i34,hE34⟩:=wO;have HE34:=aa hE34;obtain⟨iM,hM⟩:=nP;have HM:=aa hM;have hn2:=hE.n2;have hk0:=hE.k0;have hks:=hE.ks;clear hs0 hs1 hE34 hM;go_enter func53,ntmps53
 go_wp2_with(first
 |refine Ad rfl (JQ hm rfl HE34.o (Ac rfl) rfl ?_);clear hm;intro w gq hm
 |(go_at_call 111;refine(CG.o _ hm).mono ?_;clear hm;rintro e w⟨X,vt,rfl,hX,hm⟩;obtain⟨at',ct',rfl⟩:=hX.shape;have HX:=aa hX;clear hX)
 |go_at_call 107;refine MP (CF.o _ _ _ _ _ _ _ HV.o FP hm) ?_;clear hm;intro w hm;replace hm:=hm.dropRow
 |refine U ?_;try(clear hm;intro w gp hm))
 have hob:b.length<=150:=FP
 have HPT:Hid (∀(r o x:ac),x.length<n->x.length+r.length<=150->o.length<=5000000->True):=λ_ _ _ _ _ _=>trivial
 go_loopw[1,6] (λu1 u6 wr=>∃(r o x d:ac)(X:ae),cC .u8 w0 u1 r/\Bytes r/\Lies 1 X u6 o.length (vs .u8 o)/\Hid (R=gV n (o,x) r)/\x.length<n/\x.length+r.length<=150/\o.length+25900*r.length<=5000000/\(x++d).length=N/\Bytes (x++d)/\Own w0 wr (bB ge ga gs gx n x.length mode k c (crc 0 [x]) (crc ca [b]) true false sp T live peak N (x++d) (X++rs)) ss) (λu1 _ _=>wg u1)
 case atStart=>exact⟨b,bq n bg,x,d,X,HV.o,hb,HX.o,aa hR,hxn,hxb,FP,hN,hB,hm⟩
 case round=>
  clear hm HX hb hxb hN hB hxn hR HPT;obtain⟨r,o,x,d,X,hr,hrb,hX,HR,hxn,hxr,hor,hN,hB,hm⟩:=hrel;obtain⟨ad1,c1,rfl,hle,hcells⟩:=hr;obtain⟨at1,ct1,rfl⟩:=hX.shape;have HX:=aa hX;clear hX;rcases qw r.length with h0|h0
  .have q1:decide ((0:Int)<(r.length:Int))=false:=an;have hr0:r=[]:=rC h0;have HRR:Hid (R=(o,x)):=aa (by rw[HR.o,hr0];rfl);clear hcells hr0 HR;go_wp2
   go_ret2
   rw[HRR.o];exact⟨X,_,rfl,HX.o,d,hN,hB,hxn,hm⟩
  .have q1:decide ((0:Int)<(r.length:Int))=true:=az;have HRI:Hid (cC .u8 w0 (.slice ad1 r.length c1) r):=aa ⟨_,_,rfl,hle,hcells⟩;obtain⟨A,rfl,_⟩:=hcells 0 h0;obtain⟨ck,hck⟩:∃ck,ck=min r.length (n-x.length):=⟨_,rfl⟩;have hck1:1<=ck:=FP
   have hckr:ck<=r.length:=FP
   have hckn:x.length+ck<=n:=FP
   have hmin:(if((n:Int)-x.length)<(r.length:Int)then((n:Int)-x.length)else(r.length:Int))=(ck:Int):=by split<;>omega
   obtain⟨ch,hch⟩:∃ch,ch=r.take ck:=⟨_,rfl⟩;have hchl:ch.length=ck:=by rw[hch,fZ];omega
   have hchb:Bytes ch:=λy hy=>hrb y (by rw[hch]at hy;exact jB hy);have hrs:r=ch++r.drop ck:=by rw[hch,kC]
   have HV1:Hid (cC .u8 w0 (.slice (D8 (some A) c1 0) (ck-0) (c1-0)) ch):=aa (by rw[hch,<-RH];exact HRI.o.sub (dD _) hckr);have HV2:Hid (cC .u8 w0 (.slice (D8 (some A) c1 ck) (r.length-ck) (c1-ck)) (r.drop ck)):=aa (by rw[<-ZM];exact HRI.o.sub hckr (aX _));have HP:=aa (E0 (n:=n) ch o x hxn FP);have HRN:Hid (R=gV n (gV n (o,x) ch) (r.drop ck)):=aa (by rw[<-Jn,<-hrs];exact HR.o);have hdl:ck<=d.length:=by have:=hE.l1;have:=hE.l2;rw[aV]at hN;omega
   have hN3:((x++ch)++d.drop ck).length=N:=by simp only[aV,dQ]at hN⊢;omega
   have hB3:Bytes ((x++ch)++d.drop ck):=λy hy=>by
    rcases dG.1 hy with hy|hy
    .rcases dG.1 hy with hy|hy
     .exact hB y (jU _ hy)
     .exact hchb y hy
    .exact hB y (kU _ (iw hy))
   have hxl2:(x++ch).length=x.length+ck:=by rw[aV,hchl]
   have CS:Hid (∀W R,Own w0 W (bB ge ga gs gx n x.length mode k c (crc 0 [x]) (crc ca [b]) true false sp T live peak N (x++d) R) ss->ak 24 #[ga,.agg #[.int .i64 0,.int .i64 n],.int .i64 x.length,.slice (D8 (some A) c1 0) (ck-0) (c1-0)] W (RO (.bool true) w0 (bB ge ga gs gx n x.length mode k c (crc 0 [x]) (crc ca [b]) true false sp T live peak N ((x++ch)++d.drop ck) R) ss)):=λW R h=>by
    have l1:=hE.l1;have l2:=hE.l2;have N2:=hE.N2;obtain⟨ad3,c3,e3,_,hc3⟩:=HV1.o.below h.below;injection e3 with e4 e5 e6;obtain⟨A3,hA3,_⟩:=hc3 0 FP;have h2:=h.perm (rs:=_) (rt:=(ga,AR (.slice gx (x++d).length (x++d).length) live peak)::(gx,B (x++d))::(ge,gm n x.length mode ga gs k c (crc 0 [x]) (crc ca [b]) true false)::(gs,IR .i64 sp T)::R) (by rw[hN];exact(gK (l₁:=[_,_]) (l₂:=[_,_])).append_right R)
    have hst:=Mg 0 n x.length (x++d) ch A3 c3 h2 (λj u hj=>by
     have hlt:j<ch.length:=by have:=(gI.1 hj).1;rwa[Ai]at this
     obtain⟨A',hA',hc⟩:=hc3 j hlt;have:A3=A':=by rw[hA3]at hA';injection hA'
     subst this;rw[hc,<-hj]
     exact(Fg _ _ _ hlt).symm) FP FP FP FP FP
    rw[ZO FP,hchl,hN]at hst;rw[e4,e5,e6,hA3,hchl];refine hst.mono ?_;rintro e w'⟨rfl,h3⟩;exact⟨rfl,h3.perm ((gK (l₁:=[_,_]) (l₂:=[_,_])).append_right R)⟩
   have CC:Hid (∀W g R,Own w0 W ((g,#[.slice (D8 (some A) c1 0) (ck-0) (c1-0)])::R) ss->ak 107 #[.int .u32 (crc 0 [x]),.slice (some ⟨g,0,none⟩) 1 1] W (RO (.int .u32 (crc 0 [x++ch])) w0 ((g,#[.slice (D8 (some A) c1 0) (ck-0) (c1-0)])::R) ss)):=λW g R h=>by rw[<-Z1];exact CF.o _ _ _ _ _ _ _ HV1.o FP h
   obtain⟨i24,hE24⟩:=Md;have HE24:=aa hE24;clear hck hcells hE24 CF HRI HR hrs hch;by_cases hfl:x.length+ck=n
   .have q2:(((x.length:Int)+ck)==(n:Int))=true:=iI.2 FP;have HP2:Hid (gV n (o,x) ch=(o++fg (x++ch),[])):=aa (by rw[HP.o,aQ FP]);have hbl:=pB (x:=x++ch) FP
    have CO:Hid (∀W X(z:Int),z=((x++ch).length:Int)->Own w0 W ((ge,#[.int .i64 n,.int .i64 z,.int .u8 mode,.pointer ga,.slice gs k c,.int .u32 (crc 0 [x++ch]),.int .u32 (crc ca [b]),.bool true,.bool false])::(gs,IR .i64 sp T)::(ga,AR (.slice gx N N) live peak)::(gx,B ((x++ch)++d.drop ck))::(X++rs)) ss->ak 112 #[ge] W λe w'=>∃X2 v2 l',e=.returned v2/\Lies 1 X2 v2 (fg (x++ch)).length (vs .u8 (fg (x++ch)))/\l'.length=N/\Bytes l'/\Own w0 w' ((X2++[(ge,gm n 0 mode ga gs k c 0 (crc ca [b]) true false),(gs,IR .i64 sp T),(ga,AR (.slice gx N N) live peak),(gx,B l')])++(X++rs)) ss):=λW X z hz h=>by
     subst hz;have hb:=oP 0 (x++ch);refine(Ma hE FP FP FP hN3 hB3 hb.1 hb.2 h).mono ?_;exact Cx
    go_wp2_with(first
    |((with_reducible refine g5 ?_);refine uT [8] [] hm ?_;clear hm;intro w _ hm)
    |((with_reducible refine g5 ?_);refine uT [] [] hm ?_;clear hm;intro w _ hm)
    |refine xJ 0 ?_
    |((with_reducible refine g7 ?_);refine uM (hl:=.two (ag rfl) HS0.o HS1.o) ?_)
    |((with_reducible refine g6 ?_);refine j1 rfl rfl (λW=>ew (l:=0) (h:=ck) rfl HE24.o rfl (.inl ⟨rfl,rfl⟩) (.inr ⟨.i64,rfl⟩) FP FP) ?_)
    |refine A8 rfl (ew (l:=ck) (h:=r.length) rfl HE24.o rfl (.inr ⟨.i64,rfl⟩) (.inl ⟨rfl,rfl⟩) FP FP) ?_
    |refine Ad rfl (JQ hm rfl HE34.o (Ac rfl) rfl ?_);clear hm;intro w gq hm
    |go_at_call 24;refine MP (CS.o _ _ hm) ?_;clear hm;intro w hm
    |go_at_call 107;refine MP (CC.o _ _ _ hm) ?_;clear hm;intro w hm;replace hm:=hm.dropRow
    |(go_at_call 112;refine(CO.o _ X _ FP hm).mono ?_;clear hm;rintro e w⟨X2,v2,l',rfl,hX2,hlN,hlB,hm⟩;obtain⟨a2,c2,rfl⟩:=hX2.shape;have HX2:=aa hX2;clear hX2)
    |(refine Ad rfl (GR (A:=X2++[_,_,_,_]) (X:=X) hm rfl HM.o (Ac rfl) HX.o (Ac rfl) (λW h=>HX2.o.from (A:=[]) I4) (iP.1 k9) FP FP FP ?_);clear hm;intro X3 v3 w hX3 hm;obtain⟨a3,c3,rfl⟩:=hX3.shape;have HX3:=aa hX3;clear hX3)
    |refine U ?_;try(clear hm;intro w gp hm))
    go_roundw
    case rel=>exact⟨r.drop ck,o++fg (x++ch),[],l',X3,HV2.o,λy hy=>hrb y (iw hy),by rw[aV,P7];exact HX3.o,aa (by rw[HRN.o,HP2.o]),by simp only[bW];omega,by simp only[bW,dQ];omega,by rw[aV,dQ];omega,hlN,hlB,by rw[mA];exact hm.sub ((bG X2 [_,_,_,_]).append (aY _)) (aY _)⟩
    case measure=>simp only[wg];omega
   .have q2:(((x.length:Int)+ck)==(n:Int))=false:=lH.2 FP;have HP2:Hid (gV n (o,x) ch=(o,x++ch)):=aa (by rw[HP.o,aP FP]);have HZ:Hid ((x.length:Int)+ck=((x++ch).length:Int)):=aa FP
    go_wp2_with(first
    |((with_reducible refine g5 ?_);refine uT [8] [] hm ?_;clear hm;intro w _ hm)
    |((with_reducible refine g5 ?_);refine uT [] [] hm ?_;clear hm;intro w _ hm)
    |refine xJ 0 ?_
    |((with_reducible refine g7 ?_);refine uM (hl:=.two (ag rfl) HS0.o HS1.o) ?_)
    |((with_reducible refine g6 ?_);refine j1 rfl rfl (λW=>ew (l:=0) (h:=ck) rfl HE24.o rfl (.inl ⟨rfl,rfl⟩) (.inr ⟨.i64,rfl⟩) FP FP) ?_)
    |refine A8 rfl (ew (l:=ck) (h:=r.length) rfl HE24.o rfl (.inr ⟨.i64,rfl⟩) (.inl ⟨rfl,rfl⟩) FP FP) ?_
    |refine Ad rfl (JQ hm rfl HE34.o (Ac rfl) rfl ?_);clear hm;intro w gq hm
    |go_at_call 24;refine MP (CS.o _ _ hm) ?_;clear hm;intro w hm
    |go_at_call 107;refine MP (CC.o _ _ _ hm) ?_;clear hm;intro w hm;replace hm:=hm.dropRow
    |refine U ?_;try(clear hm;intro w gp hm))
    go_roundw
    case rel=>exact⟨r.drop ck,o,x++ch,d.drop ck,X,HV2.o,λy hy=>hrb y (iw hy),HX.o,aa (by rw[HRN.o,HP2.o]),FP,by rw[dQ];omega,by rw[dQ];omega,hN3,hB3,by rw[HZ.o]at hm;exact hm⟩
    case measure=>simp only[wg];omega
end
end
def df(s:ac×ac):ac:=if 0<s.2.length then s.1++fg s.2 else s.1
section
variable{ge ga gs gx n:Nat}{mode:Int}{k c:Nat}{ca:Int}{bg:Bool}{sp:ac}{T:ar}{live peak:Int}{N:Nat}{w0 w:FC}{rs:ae}{ss:O1}
def LI(hE:lh n mode k sp live N){x:ac}(hx:x.length<=150)(hm:fo w0 w ge ga gs gx n mode k c ca bg false sp T live peak N x rs ss):ak 55 #[ge] w λe w'=>∃X v2,e=.returned (.tuple #[v2,.int .i64 0])/\Lies 1 X v2 (df (bq n bg,x)).length (vs .u8 (df (bq n bg,x)))/\fo w0 w' ge ga gs gx n mode k c ca true false sp T live peak N [] (X++rs) ss:=by
 obtain⟨d,hN,hB,hxn,hm⟩:=hm;have CG:Hid (∀W,Own w0 W (bB ge ga gs gx n x.length mode k c (crc 0 [x]) ca bg false sp T live peak N (x++d) rs) ss->ak 111 #[ge] W λe w'=>∃X v,e=.returned (.tuple #[v,.bool true])/\Lies 1 X v (bq n bg).length (vs .u8 (bq n bg))/\Own w0 w' (bB ge ga gs gx n x.length mode k c (crc 0 [x]) ca true false sp T live peak N (x++d) (X++rs)) ss):=λW h=>E1 hE.n1 hE.n2 h;have hol:=mC hE.n2 bg;have hn1:=hE.n1
 have CO:Hid (1<=x.length->∀W X,Own w0 W (bB ge ga gs gx n x.length mode k c (crc 0 [x]) ca true false sp T live peak N (x++d) (X++rs)) ss->ak 112 #[ge] W λe w'=>∃X2 v2 l',e=.returned v2/\Lies 1 X2 v2 (fg x).length (vs .u8 (fg x))/\l'.length=N/\Bytes l'/\Own w0 w' ((X2++[(ge,gm n 0 mode ga gs k c 0 ca true false),(gs,IR .i64 sp T),(ga,AR (.slice gx N N) live peak),(gx,B l')])++(X++rs)) ss):=λh1 W X h=>by
  have hb:=oP 0 x;refine(Ma hE h1 FP hx hN hB hb.1 hb.2 h).mono ?_;exact Cx
 obtain⟨iM,hM⟩:=nP;have HM:=aa hM;have hbl:=pB hx;clear hM;rcases qw x.length with h0|h0
 .obtain rfl:x=[]:=rC h0;have HR:Hid (df (bq n bg,[])=bq n bg):=aa rfl;go_enter func55,ntmps55
  go_wp2_with(first
  |(go_at_call 111;refine(CG.o _ hm).mono ?_;clear hm;rintro e w⟨X,vt,rfl,hX,hm⟩;obtain⟨at',ct',rfl⟩:=hX.shape;have HX:=aa hX;clear hX)
  |refine U ?_;try(clear hm;intro w gp hm))
  go_ret2
  rw[HR.o];exact⟨X,_,rfl,HX.o,d,hN,hB,hxn,hm⟩
 .have q1:decide ((0:Int)<(x.length:Int))=true:=az;have HR:Hid (df (bq n bg,x)=bq n bg++fg x):=aa (aQ h0);go_enter func55,ntmps55
  go_wp2_with(first
  |(go_at_call 111;refine(CG.o _ hm).mono ?_;clear hm;rintro e w⟨X,vt,rfl,hX,hm⟩;obtain⟨at',ct',rfl⟩:=hX.shape;have HX:=aa hX;clear hX)
  |(go_at_call 112;refine(CO.o h0 _ X hm).mono ?_;clear hm;rintro e w⟨X2,v2,l',rfl,hX2,hlN,hlB,hm⟩;obtain⟨a2,c2,rfl⟩:=hX2.shape;have HX2:=aa hX2;clear hX2)
  |(refine Ad rfl (GR (A:=X2++[_,_,_,_]) (X:=X) hm rfl HM.o (Ac rfl) HX.o (Ac rfl) (λW h=>HX2.o.from (A:=[]) I4) (iP.1 k9) FP FP FP ?_);clear hm;intro X3 v3 w hX3 hm;obtain⟨a3,c3,rfl⟩:=hX3.shape;have HX3:=aa hX3;clear hX3)
  |refine U ?_;try(clear hm;intro w gp hm))
  go_ret2
  rw[HR.o];exact⟨X3,_,rfl,by rw[aV,P7];exact HX3.o,l',hlN,hlB,by simp only[bW];omega,by rw[mA];exact hm.sub ((bG X2 [_,_,_,_]).append (aY _)) (aY _)⟩
def Ai3(hE:lh n mode k sp live N){x:ac}(hx:x.length<=150)(a0:0<=ca)(a1:ca<=4294967295)(hm:fo w0 w ge ga gs gx n mode k c ca bg false sp T live peak N x rs ss):ak 56 #[ge] w λe w'=>∃X v2 l',e=.returned (.tuple #[v2,.int .i64 0])/\Lies 1 X v2 (df (bq n bg,x)++(0::cj ca)).length (vs .u8 (df (bq n bg,x)++(0::cj ca)))/\Own w0 w' (bB ge ga gs gx n 0 mode k c 0 ca true true sp T live peak N l' (X++rs)) ss:=by
 obtain⟨f,hf⟩:∃f,f=df (bq n bg,x):=⟨_,rfl⟩
 have hfl:f.length<=28100:=by
  have h1:=mC hE.n2 bg;have h2:=pB hx;rw[hf,df];split
  .show(bq n bg++fg x).length<=_;rw[aV];omega
  .show(bq n bg).length<=_;omega
 have CF:Hid (∀W,fo w0 W ge ga gs gx n mode k c ca bg false sp T live peak N x rs ss->ak 55 #[ge] W λe w'=>∃X v2 l',e=.returned (.tuple #[v2,.int .i64 0])/\Lies 1 X v2 f.length (vs .u8 f)/\Own w0 w' (bB ge ga gs gx n 0 mode k c 0 ca true false sp T live peak N l' (X++rs)) ss):=λW h=>by
  refine(LI hE hx h).mono ?_;rintro e w'⟨X,v2,rfl,hX,d,_,_,_,h2⟩;rw[mA]at h2;rw[hf];exact⟨X,v2,_,rfl,hX,h2⟩
 have CP:Hid (∀W r1 r2 r3 r4 R,Own w0 W (r1::r2::r3::r4::R) ss->ak 113 #[.int .u32 ca] W λe w'=>∃X v,e=.returned v/\Lies 1 X v (0::cj ca).length (vs .u8 (0::cj ca))/\Own w0 w' ((X++[r1,r2,r3,r4])++R) ss):=λW r1 r2 r3 r4 R h=>by
  refine(PN a0 a1 h).mono ?_;rintro e w'⟨X,v,rfl,hX,h2⟩;exact⟨X,v,rfl,hX,by rw[aI];exact h2⟩
 rw[<-hf];have hcl:(0::cj ca).length<=5:=aX _;generalize (0::cj ca)=q at*;obtain⟨iM,hM⟩:=nP;have HM:=aa hM;have HS:=aa hm;clear hM hf hm;go_enter func56,ntmps56
 go_wp2_with(first
 |(go_at_call 55;refine(CF.o _ HS.o).mono ?_;clear HS;rintro e w⟨X,vt,l',rfl,hX,hm⟩;obtain⟨at',ct',rfl⟩:=hX.shape;have HX:=aa hX;clear hX)
 |(go_at_call 113;refine(CP.o _ _ _ _ _ _ hm).mono ?_;clear hm;rintro e w⟨X2,v2,rfl,hX2,hm⟩;obtain⟨a2,c2,rfl⟩:=hX2.shape;have HX2:=aa hX2;clear hX2)
 |(refine Ad rfl (GR (A:=X2++[_,_,_,_]) (X:=X) hm rfl HM.o (Ac rfl) HX.o (Ac rfl) (λW h=>HX2.o.from (A:=[]) I4) (iP.1 k9) FP FP FP ?_);clear hm;intro X3 v3 w hX3 hm;obtain⟨a3,c3,rfl⟩:=hX3.shape;have HX3:=aa hX3;clear hX3)
 |refine U ?_;try(clear hm;intro w gp hm))
 go_ret2
 exact⟨X3,_,l',rfl,by rw[aV,P7];exact HX3.o,hm.sub ((bG X2 [_,_,_,_]).append (aY _)) (aY _)⟩
end
def S9{bud n:Nat}(b1:1<=bud)(b2:bud<=1048576)(n1:1<=n)(n2:n<=65536)(h:(Pol.pk bud n 1).2=0):∃(mo:Int)(ls:b9),Pol.pk bud n 1=(mo,0)/\Pol.lay n 1 mo=ls.map Int.ofNat/\Pol.er n 1 mo=0/\ls.sum<=bud/\(Lit.int .u8 mo).wf=true/\((mo=1\/mo=2)/\ls=[n]\/mo=3/\ls=[n,n,4*min 1024 (n+1)]):=by
 have ha:∀m:Int,m=1\/m=2\/m=3->Pol.dt n 1 m:=λm hm=>⟨FP,FP,.inl rfl,hm⟩;have hb:Pol.mr bud:=⟨FP,FP⟩;have e:Pol.pk bud n 1=Pol.cm bud n 1 3:=by rw[Pol.pk,aQ ⟨ha 1 FP,hb⟩]
 have l1:Pol.lay n 1 1=[(n:Int)]:=by
  rw[Pol.lay,aQ (ha 1 FP),aQ rfl,Pol.lk,aP FP]
 have l2:Pol.lay n 1 2=[(n:Int)]:=by
  rw[Pol.lay,aQ (ha 2 FP),aQ rfl,Pol.lk,aP FP]
 have hr:4*Pol.rowsOf n=((4*min 1024 (n+1):Nat):Int):=by
  rw[Pol.rowsOf];split<;>omega
 have l3:Pol.lay n 1 3=[(n:Int),(n:Int),((4*min 1024 (n+1):Nat):Int)]:=by
  rw[Pol.lay,aQ (ha 3 FP),aQ rfl,Pol.lk,aQ rfl,hr]
 rw[e]at h⊢;by_cases h3:Pol.need n 1 ((2+1:Nat):Int)<=bud
 .have e3:Pol.cm bud n 1 3=(3,0):=by rw[Pol.cm,aQ h3];rfl
  have h3':Pol.need n 1 3<=bud:=h3;rw[Pol.need,l3]at h3';simp only[mX,ng]at h3';exact⟨3,[n,n,4*min 1024 (n+1)],e3,l3,Pol.kj (ha 3 FP),by simp only[mX,ng];omega,FU,.inr ⟨rfl,rfl⟩⟩
 .by_cases h2:Pol.need n 1 ((1+1:Nat):Int)<=bud
  .have e3:Pol.cm bud n 1 3=(2,0):=by rw[Pol.cm,aP h3,Pol.cm,aQ h2];rfl
   have h2':Pol.need n 1 2<=bud:=h2;rw[Pol.need,l2]at h2';simp only[mX,ng]at h2';exact⟨2,[n],e3,l2,Pol.kj (ha 2 FP),by simp only[mX,ng];omega,FU,.inl ⟨.inr rfl,rfl⟩⟩
  .by_cases h1:Pol.need n 1 ((0+1:Nat):Int)<=bud
   .have e3:Pol.cm bud n 1 3=(1,0):=by rw[Pol.cm,aP h3,Pol.cm,aP h2,Pol.cm,aQ h1];rfl
    have h1':Pol.need n 1 1<=bud:=h1;rw[Pol.need,l1]at h1';simp only[mX,ng]at h1';exact⟨1,[n],e3,l1,Pol.kj (ha 1 FP),by simp only[mX,ng];omega,FU,.inl ⟨.inl rfl,rfl⟩⟩
   .exact AM
def fj(ls:b9):Nat->ac
|0=>[]
|j+1=>fj ls j++[((ls.take j).sum:Int),(ls.getD j 0:Int)]
def xl(ls:b9):∀j,(fj ls j).length=j*2
|0=>rfl
|j+1=>by rw[fj,aV,xl ls j,bD,bD,bW];omega
def Pz{o:Oz}{a:OA}{w:FC}{x y:O7}(ho:o.op=.build 172 #[(0,x),(2,y)]){n m:Int}(hx:a.eval x=.int .i64 n)(hy:a.eval y=.int .u8 m):(execOp a.eval o).run prog w=.ok (.value (.agg #[.int .i64 n,.int .i64 0,.int .u8 m,.pointer none,.slice none 0 0,.int .u32 0,.int .u32 0,.bool false,.bool false])) w:=
 Dq ho GV
def Yv{ls:b9}{j:Nat}(h:j<ls.length):(ls.take (j+1)).sum=(ls.take j).sum+ls.getD j 0:=by
 rw[kW h,qQ];simp[fU,fe h]
def Vi(ls:b9)(j:Nat):(ls.take j).sum<=ls.sum:=by
 have h:(ls.take j++ls.drop j).sum=ls.sum:=by rw[kC]
 rw[qQ]at h;omega
def AgV{α:Type}(a x e s:α)(r:List α):(e::s::a::x::r).Perm (a::x::e::s::r):=(gK (l₁:=[e,s]) (l₂:=[a,x])).append_right r
def V9{bud n:Nat}(b1:1<=bud)(b2:bud<=1048576)(n1:1<=n)(n2:n<=65536)(h:(Pol.pk bud n 1).2=0){w0 w:FC}{rs:ae}{ss:O1}(hm:Own w0 w rs ss):ak 52 #[.int .i64 n,.int .i64 bud] w λe w'=>∃ge ga gs gx k c sp T mo live,e=.returned (.tuple #[.pointer (some ⟨ge,0,none⟩),.int .i64 0])/\lh n mo k sp live bud/\live=Pol.need n 1 mo/\Pol.er n 1 mo=0/\(Lit.int .u8 mo).wf=true/\fo w0 w' ge ga gs gx n mo k c 0 false false sp T live live bud [] rs ss:=by
 obtain⟨mo,ls,hpk,hlay,her,hsum,hwf,hls⟩:=S9 b1 b2 n1 n2 h
 have CP:Hid (∀W,ak 110 #[.int .i64 bud,.int .i64 n,.int .u8 1] W (RB W (.tuple #[.int .u8 mo,.int .i64 0]))):=λW=>by
  have:=Pol.pick_any bud n 1 W FU;rw[hpk]at this;exact this
 obtain⟨kk,hkk⟩:∃kk,kk=ls.length:=⟨_,rfl⟩;have hk13:1<=kk/\kk<=3:=by rcases hls with⟨_,rfl⟩|⟨_,rfl⟩<;>rw[hkk]<;>exact⟨G5,G5⟩
 obtain⟨li,hli⟩:∃li:ac,li=ls.map Int.ofNat:=⟨_,rfl⟩;have hlil:li.length=kk:=by rw[hli,kX,hkk]
 have hlig:∀j,gi li j=(ls.getD j 0:Int):=λj=>by
  rw[hli];simp only[gi,fU,jH];cases ls[j]?<;>rfl
 have CL:Hid (∀W R,Own w0 W R ss->ak 94 #[.int .i64 n,.int .u8 1,.int .u8 mo] W λe w'=>∃Y u,e=.returned (.tuple #[u,.int .i64 0])/\Lies 1 Y u kk (vs .i64 li)/\Own w0 w' (Y++R) ss):=λW R hW=>by
  refine(Pol.mT n 1 mo W FU hwf).mono ?_;rw[hlay,her,<-hli];rintro e w'⟨⟨u,rfl,ho⟩,hb⟩;have ho':w'.ownsRow W.heap.size 3 1 u (vs .i64 li).length (vs .i64 li):=by rw[Ai];exact ho
  obtain⟨Y,hY,h2⟩:=(hW.fG hb ho').y3;rw[Ai,hlil]at hY;exact⟨Y,u,rfl,hY,h2⟩
 have CA:Hid (∀W R,Own w0 W R ss->ak 22 #[.int .i64 bud] W λe w'=>∃ga gx,e=.returned (.tuple #[.pointer (some ⟨ga,0,none⟩),.int .i64 0])/\Own w0 w' ((ga,AR (.slice (some ⟨gx,0,none⟩) bud bud) 0 0)::(gx,B (List.replicate bud 0))::R) ss):=λW R hW=>Of hW b1 b2
 have CT:Hid (∀W ga gx(j:Nat)(z:Int)l R,j<kk->z=gi li j->l.length=bud->Bytes l->Own w0 W ((ga,AR (.slice (some ⟨gx,0,none⟩) bud bud) ((ls.take j).sum:Nat) ((ls.take j).sum:Nat))::(gx,B l)::R) ss->ak 23 #[.pointer (some ⟨ga,0,none⟩),.int .i64 z] W λe w'=>e=.returned (.tuple #[.agg #[.int .i64 ((ls.take j).sum:Nat),.int .i64 z],.int .i64 0])/\∃l2,l2.length=bud/\Bytes l2/\Own w0 w' ((ga,AR (.slice (some ⟨gx,0,none⟩) bud bud) ((ls.take (j+1)).sum:Nat) ((ls.take (j+1)).sum:Nat))::(gx,B l2)::R) ss):=λW ga gx j z l R hj hz hl hB hW=>by
  have h1:=Yv (show j<ls.length by omega);have h2:=Vi ls (j+1);rw[hz,hlig];rw[<-hl]at hW;refine(Lg (ls.take j).sum (ls.getD j 0) hW FP FP hB).mono ?_;rintro e w'⟨rfl,l2,hl2,hB2,h3⟩;refine⟨rfl,l2,FP,hB2,?_⟩;have e4:imax ((ls.take j).sum:Nat) (((ls.take j).sum+ls.getD j 0:Nat):Int)=(((ls.take j).sum+ls.getD j 0:Nat):Int):=by rw[imax];split<;>omega
  rw[e4,hl2,hl]at h3;rw[h1];exact h3
 obtain⟨i3,hE⟩:=nR;have HE:=aa hE;obtain⟨iM,hM⟩:=mz;have HM:=aa hM;have HKK:=aa hkk;have HLI:=aa hlil;have HLG:=aa hlig;have hz0:((ls.take 0).sum:Nat)=0:=rfl;have hB0:Bytes (List.replicate bud 0):=λy hy=>by rw[ni hy];decide
 clear hE hM hkk hlil hlig hli hpk;go_enter func52,ntmps52
 go_wp2_with(first
 |go_at_call 110;refine cB (CP.o _) hm ?_;clear hm;intro w1 hm
 |go_at_call 22;refine(CA.o _ _ hm).mono ?_;clear hm;rintro e w⟨ga,gx,rfl,hm⟩
 |(go_at_call 94;refine(CL.o _ _ hm).mono ?_;clear hm;rintro e w⟨Y,u,rfl,hY,hm⟩;obtain⟨ay,cy,rfl⟩:=hY.shape;have HY:=aa hY;clear hY;replace hm:=hm.perm (iy [_,_,_] Y rs);simp only[s2]at hm)
 |with_reducible refine cS (t:=172) ?_;refine A8 rfl (Pz rfl rfl rfl) ?_
 |((with_reducible refine g3 ?_);refine Ad rfl (xD hm rfl rfl ?_);clear hm;intro w ge hm)
 |refine U ?_;try(clear hm;intro w _ hm))
 have HA:Hid (∀W R j,j<kk->Own w0 W (R++(Y++rs)) ss->∃A,ay=some A/\W.cell? (A.add j)=some (.int .i64 (gi li j))):=λW R j hj h=>by
  obtain⟨ad2,c2,e,hc⟩:=(show Lies 1 Y _ li.length (vs .i64 li) by rw[HLI.o];exact HY.o).oF h;cases e;exact hc j (by rw[HLI.o];exact hj)
 go_loopw[44] (λu44 wr=>∃(j:Nat)(X:ae)(v:NY)(l:ac),j<=kk/\u44=.int .i64 j/\Lies 2 X v j (vs .i64 (fj ls j))/\Z0 v/\l.length=bud/\Bytes l/\Own w0 wr ((ga,AR (.slice (some ⟨gx,0,none⟩) bud bud) ((ls.take j).sum:Nat) ((ls.take j).sum:Nat))::(gx,B l)::(ge,#[.int .i64 n,.int .i64 0,.int .u8 mo,.pointer (some ⟨ga,0,none⟩),v,.int .u32 0,.int .u32 0,.bool false,.bool false])::(X++(Y++rs))) ss) (λu44 _=>kk-(intOf u44).toNat)
 case atStart=>exact⟨0,[],_,_,FP,rfl,Lies.nil 2,λg p m c e=>(by cases e),fp,hB0,hm⟩
 case round=>
  clear hm;obtain⟨j,X,v,l,hj,rfl,hX,hZ,hl,hB,hm⟩:=hrel;obtain⟨ax,cx,rfl⟩:=hX.shape;have HX:=aa hX;have HZ:=aa hZ;clear hX hZ;rcases bF j kk with hlt|hge
  .have q1:decide ((j:Int)<kk)=true:=az;obtain⟨A,rfl,_⟩:=HA.o _ (_::_::_::X) j hlt hm;have HC:Hid (∀W R,Own w0 W (R++(Y++rs)) ss->W.cell? (A.add j)=some (.int .i64 (gi li j))):=λW R h=>by obtain⟨A2,e,h2⟩:=HA.o W R j hlt h;cases e;exact h2
   have HSP:Hid (fj ls (j+1)=fj ls j++[((ls.take j).sum:Int),gi li j]):=aa (by rw[fj,HLG.o]);have HTT:=aa λW l R=>CT.o W ga gx j (gi li j) l R hlt rfl;generalize gi li j=z at*;generalize hs2:(ls.take (j+1)).sum=sB at*;generalize (ls.take j).sum=sA at*
   go_wp2_with(first
   |refine A8 rfl (Am (k:=j) rfl HE.o rfl rfl rfl hlt) ?_
   |refine A8 rfl (AU rfl rfl (ot rfl) (HC.o _ (_::_::_::X) hm)) ?_
   |((with_reducible refine g4 ?_);refine uA hm (hz:=nf) ?_;clear hm;intro w gz hm)
   |((with_reducible refine g5 ?_);refine uT [6] [] hm ?_;clear hm;intro w _ hm)
   |go_at_call 23;refine(HTT.o _ _ _ hl hB hm).mono ?_;clear hm hl hB;rintro e w⟨rfl,l,hl,hB,hm⟩
   |refine Ad rfl (pT hm rfl HM.o (Ac rfl) rfl rfl ?_);clear hm;intro w gb hm
   |(refine Ad rfl (Ad9 (A:=[_,_,_,_,_]) (X:=X) hm rfl HM.o (Ac rfl) HX.o HZ.o (Ac rfl) (λW h=>From.two (h.row 0 rfl)) (oR rfl rfl) FP FP FP ?_);clear hm HX HZ;intro X v w hX hZ hm;simp only[s2]at hm;replace hm:=hm.dropRow;obtain⟨ax,cx,rfl⟩:=hX.shape;have HX:=aa hX;have HZ:=aa hZ;clear hX hZ)
   |refine U ?_;try(clear hm;intro w _ hm))
   go_roundw
   case rel=>exact⟨j+1,X,_,l,FP,by go_num,by rw[HSP.o,P7];exact HX.o,HZ.o,hl,hB,by rw[hs2];exact hm.dropRow⟩
   case measure=>simp[intOf];omega
  .obtain rfl:j=kk:=FP
   have q1:decide ((j:Int)<j)=false:=an;go_wp2
   go_ret2
   obtain⟨_,⟨_,_,h0,_⟩|⟨gs,p,c,cells,rfl,e1,_,hsz,hcells⟩⟩:=HX.o
   .omega
   obtain rfl:=HZ.o _ _ _ _ e1;obtain⟨rfl,-,rfl⟩:ax=some ⟨gs,0,none⟩/\j=j/\cx=c:=by injection e1 with a b c;exact⟨a,rfl,c⟩
   have hlen:(vs .i64 (fj ls j)).length=j*2:=by rw[Ai,xl]
   have hcs:cells=IR .i64 (fj ls j) (cells.toList.drop (j*2)):=by
    have h1:cells.toList.take (j*2)=vs .i64 (fj ls j):=lI λi=>by
     by_cases hi:i<j*2
     .rw[nH hi,cE,<-hcells i FP,dA]
     .rw[iQ H9,iQ FP]
    rw[IR,<-h1,kC]
   rw[hcs]at hm;have hts:ls.take j=ls:=by rw[HKK.o,gY]
   rw[hts]at hm
   have hsum2:Pol.need n 1 mo=(ls.sum:Int):=by
    rw[Pol.need,hlay];rcases hls with⟨_,rfl⟩|⟨_,rfl⟩
    .simp
    .simp
   have hne:(n:Int)<=(ls.sum:Int):=by
    rcases hls with⟨_,rfl⟩|⟨_,rfl⟩
    .simp
    .simp;omega
   have hspl:=xl ls j
   have hg:gi (fj ls j) 0=0/\gi (fj ls j) 1=n/\(mo=1\/mo=2\/(mo=3/\2<j/\∃sc sr rn:Nat,gi (fj ls j) 2=sc/\gi (fj ls j) 4=sr/\gi (fj ls j) 5=rn/\n<=sc/\sc+n<=sr/\4*(min n 150+1)<=rn/\(sr:Int)+rn<=(ls.sum:Int))):=by
    rw[HKK.o];rcases hls with⟨hmo,rfl⟩|⟨rfl,rfl⟩
    .exact⟨rfl,rfl,hmo.elim .inl λh=>.inr (.inl h)⟩
    .refine⟨rfl,rfl,.inr (.inr ⟨rfl,G5,n,n+n,4*min 1024 (n+1),rfl,?_,rfl,aX _,aX _,FP,?_⟩)⟩
     .simp[fj,gi]
     .simp;omega
   refine⟨ge,ga,gs,gx,j,cx,fj ls j,cells.toList.drop (j*2),mo,ls.sum,rfl,⟨n1,n2,FP,FP,hg.1,hg.2.1,hne,FP,b2,hg.2.2⟩,hsum2.symm,her,hwf,l,hl,hB,n1,?_⟩;rw[mA];exact(hm.perm (AgV _ _ _ _ _)).sub ((bG Y rs).cons_cons _|>.cons_cons _|>.cons_cons _|>.cons_cons _) (aY _)
section
variable{y:Int}{b e h o x z:ac}{i:Nat}
def RY{n:Nat}:gF n (h++o,x) y=(h++(gF n (o,x) y).1,(gF n (o,x) y).2):=by
 unfold gF
 split<;>simp
def ub(n:Nat)(h:ac):∀(b o x:ac),gV n (h++o,x) b=(h++(gV n (o,x) b).1,(gV n (o,x) b).2)
|[],_,_=>rfl
|y::b,o,x=>by
  show gV n (gF n (h++o,x) y) b=_;rw[RY,ub n h b];rfl
def sF{n:Nat}:∀(b o x:ac),x.length+b.length<=150->(gV n (o,x) b).1.length+25900*(gV n (o,x) b).2.length<=o.length+25900*(x.length+b.length)/\(gV n (o,x) b).2.length<=x.length+b.length
|[],o,x,_=>⟨aX _,aX _⟩
|y::b,o,x,h=>by
  rw[bD]at h⊢;show(gV n (gF n (o,x) y) b).1.length+_<=_/\_;have e:gV n (o,x) (y::b)=gV n (gF n (o,x) y) b:=rfl;rw[e,gF];simp only;by_cases hx:x.length+1=n
  .rw[aQ hx];have hb:=pB (x:=x++[y]) JC;have ih:=sF (n:=n) b (o++fg (x++[y])) [] (by simp only[bW];omega);rw[aV]at ih;simp only[bW]at ih;omega
  .rw[aP hx];have ih:=sF (n:=n) b o (x++[y]) JC;rw[aV,bD,bW]at ih;omega
def wt(hx:x.length<=150):(df (o,x)).length<=o.length+25900*x.length:=by
 have hb:=pB hx;rw[df];split
 .rename_i h;have h:0<x.length:=h;show(o++fg x).length<=_;rw[aV];omega
 .show o.length<=_;omega
def Mh(h o x:ac):df (h++o,x)=h++df (o,x):=by
 unfold df;split
 .exact aI _ _ _
 .rfl
def iB(n:Nat):List ac->ac->ac
|[],o=>o
|p::ps,o=>iB n ps (df (gV n (o,[]) p))
def em(n:Nat)(ps:List ac):ac:=([87,80,1]++cn n)++iB n ps []++(0::cj (crc 0 [ps.flatten]))
def Se{c:Int}{y:ac}:crc (crc c [x]) [y]=crc c [x++y]:=by
 have h:W32 (fd (bS c) x):=aG x _ (Rj _);show bS (fd (bS (bS (fd (bS c) x))) y)=bS (fd (bS c) (x++y));rw[pd h,fd,fd,fd,lG]
def lf(w:FC)(v:NY)(ps:List ac):Prop:=∃ad c,v=.slice ad ps.length c/\∀i(h:i<ps.length),∃A u,ad=some A/\w.cell? (A.add i)=some u/\cC .u8 w u ps[i]/\Bytes ps[i]
def QV{ps:List ac}(h:i<ps.length):((ps.take i).flatten).length+ps[i].length+((ps.drop (i+1)).flatten).length=ps.flatten.length:=by
 have e:ps=ps.take i++(ps[i]::ps.drop (i+1)):=by rw[<-jg h,kC]
 conv=>rhs;rw[e]
 rw[vg,vk,aV,aV];omega
def Ee{ps:List ac}(h:i<ps.length):(ps.take (i+1)).flatten=(ps.take i).flatten++ps[i]:=by
 rw[kW h,vg];simp
def l8(n:Nat)(bg:Bool)(o z:ac):Prop:=z=(if bg=true then[87,80,1]++cn n else[])++o/\(bg=false->o=[])
def l8.put{n:Nat}{bg:Bool}(h:l8 n bg o z):l8 n true (o++e) (z++(bq n bg++e)):=by
 obtain⟨rfl,h2⟩:=h;refine⟨?_,λh=>G6⟩;cases bg with
|false=>rw[h2 rfl];simp[bq]
|true=>simp[bq]
section
variable{ge ga gs gx n:Nat}{mode:Int}{k c:Nat}{ca:Int}{bg:Bool}{sp:ac}{T:ar}{live peak:Int}{N:Nat}{w0 w:FC}{Xo rs:ae}{ss:O1}
def YZ(hE:lh n mode k sp live N){o:ac}{v:NY}(hv:cC .u8 w0 v b)(hb:Bytes b)(hxb:x.length+b.length<=150)(hm:fo w0 w ge ga gs gx n mode k c ca bg false sp T live peak N x (Xo++rs) ss):ak 53 #[ge,v] w λe w'=>∃X v2 d,e=.returned (.tuple #[v2,.int .i64 0])/\Lies 1 X v2 (bq n bg++(gV n ([],x) b).1).length (vs .u8 (bq n bg++(gV n ([],x) b).1))/\((gV n ([],x) b).2++d).length=N/\Bytes ((gV n ([],x) b).2++d)/\(gV n ([],x) b).2.length<n/\Own w0 w' ((X++[(ge,gm n (gV n ([],x) b).2.length mode ga gs k c (crc 0 [(gV n ([],x) b).2]) (crc ca [b]) true false),(gs,IR .i64 sp T),(ga,AR (.slice gx N N) live peak),(gx,B ((gV n ([],x) b).2++d))])++(Xo++rs)) ss:=by
 have e:=ub n (bq n bg) b [] x;rw[fF]at e;refine(VZ hE hv hb hxb hm).mono ?_;rintro _ w'⟨X,v2,rfl,hX,hS⟩;rw[e]at hX hS;obtain⟨d,h1,h2,h3,h4⟩:=hS;refine⟨X,v2,d,rfl,hX,h1,h2,h3,?_⟩;rw[aI];exact h4.perm (iy X [_,_,_,_] (Xo++rs))
def Ahb(hE:lh n mode k sp live N)(hx:x.length<=150)(hm:fo w0 w ge ga gs gx n mode k c ca bg false sp T live peak N x (Xo++rs) ss):ak 55 #[ge] w λe w'=>∃X v2 d,e=.returned (.tuple #[v2,.int .i64 0])/\Lies 1 X v2 (bq n bg++df ([],x)).length (vs .u8 (bq n bg++df ([],x)))/\d.length=N/\Bytes d/\Own w0 w' ((X++[(ge,gm n 0 mode ga gs k c 0 ca true false),(gs,IR .i64 sp T),(ga,AR (.slice gx N N) live peak),(gx,B d)])++(Xo++rs)) ss:=by
 have e:=Mh (bq n bg) [] x;rw[fF]at e;refine(LI hE hx hm).mono ?_;rintro _ w'⟨X,v2,rfl,hX,hS⟩;rw[e]at hX;obtain⟨d,h1,h2,h3,h4⟩:=hS;rw[mA]at h4;refine⟨X,v2,d,rfl,hX,h1,h2,?_⟩;rw[aI];exact h4.perm (iy X [_,_,_,_] (Xo++rs))
end
end
def l8.len{n:Nat}{bg:Bool}{o z:ac}(h:l8 n bg o z)(hn:([87,80,1]++cn n).length<=8):z.length<=8+o.length:=by
 rw[h.1,aV];cases bg with
|true=>rw[aQ rfl];omega
|false=>rw[aP FU];simp
def A7{α:Type}(X:List α)(a b c d:α)(R:List α):(a::(X++(b::c::d::R))).Perm ((X++[a,b,c,d])++R):=by
 rw[aI];exact List.perm_middle.symm
def xj{n bud:Nat}(b1:1<=bud)(b2:bud<=1048576)(n1:1<=n)(n2:n<=65536)(hpk:(Pol.pk bud n 1).2=0){ps:List ac}(hps:ps.length<=1000)(hT:ps.flatten.length<=150){v:NY}{w0 w:FC}{rs:ae}{ss:O1}(hv:lf w0 v ps)(sz:Nat)(sZ1:1<=sz)(sZ2:sz<=1000)(hm:Own w0 w rs ss):ak 16 #[.int .i64 n,.int .i64 bud,v,.int .i64 sz] w λe w'=>∃X v2,e=.returned (.tuple #[v2,.bool true])/\Lies 1 X v2 (em n ps).length (vs .u8 (em n ps))/\Own w0 w' (X++rs) ss:=by
 have CN:Hid (∀W,Own w0 W rs ss->ak 52 #[.int .i64 n,.int .i64 bud] W λe w'=>∃ge ga gs gx k c sp T mo live,e=.returned (.tuple #[.pointer (some ⟨ge,0,none⟩),.int .i64 0])/\lh n mo k sp live bud/\live=Pol.need n 1 mo/\Pol.er n 1 mo=0/\(Lit.int .u8 mo).wf=true/\fo w0 w' ge ga gs gx n mo k c 0 false false sp T live live bud [] rs ss):=λW h=>V9 b1 b2 n1 n2 hpk h;obtain⟨ad,cp,rfl,hcells⟩:=hv;have HCL:=aa hcells;obtain⟨i34,hE34⟩:=wO;have HE34:=aa hE34;obtain⟨i24,hE24⟩:=Md;have HE24:=aa hE24;obtain⟨iM,hM⟩:=nP;have HM:=aa hM;have HPS:=aa hps;obtain⟨L,hL⟩:∃L,L=ps.length:=⟨_,rfl⟩;have hHd:([87,80,1]++cn n).length<=8:=mC (bg:=false) n2;rw[<-hL];have hLb:L<=1000:=FP
 clear hcells hE34 hE24 hM hps;go_enter func16,ntmps16
 go_wp2_with(first
 |go_at_call 52;refine(CN.o _ hm).mono ?_;clear hm;rintro e w⟨ge,ga,gs,gx,k,c,sp,T,mo,live,rfl,hE,hlive,her,hwf,hS⟩
 |refine U ?_;try(clear hm;intro w gp hm))
 have HE:=aa hE;have HL:=aa hL;have hllb:live<=bud:=hE.l2;have HLV:=aa hlive;clear hE hL hlive
 go_loopw[12,13,14] (λu12 u13 u14 wr=>∃(i:Nat)(o z:ac)(bg:Bool)(Xo:ae),i<=L/\u14=.int .i64 i/\u13=.bool true/\Lies 1 Xo u12 z.length (vs .u8 z)/\l8 n bg o z/\Hid (iB n (ps.drop i) o=iB n ps [])/\o.length<=25900*((ps.take i).flatten).length/\fo w0 wr ge ga gs gx n mo k c (crc 0 [(ps.take i).flatten]) bg false sp T live live bud [] (Xo++rs) ss) (λ_ _ u14 _=>L-(intOf u14).toNat)
 case atStart=>exact⟨0,[],[],false,[],FP,rfl,rfl,Lies.nil 1,⟨rfl,λ_=>rfl⟩,aa rfl,dD _,by rw[mO,wR,mA];exact hS⟩
 case round=>
  clear hS;obtain⟨i,o,z,bg,Xo,hi,rfl,rfl,hX,hO,HB,hol,hS⟩:=hrel;obtain⟨ao,co,rfl⟩:=hX.shape;have HX:=aa hX;clear hX;rcases bF i L with hlt|hge
  .have q1:decide ((i:Int)<L)=true:=az;have hi2:i<ps.length:=by rw[<-HL.o];exact hlt
   have hfl:=QV hi2;have hfs:=Ee hi2;have hdr:ps.drop i=ps[i]::ps.drop (i+1):=jg hi2;obtain⟨A,u,rfl,hu,hpu,hpb⟩:=HCL.o i hi2;obtain⟨p,hp⟩:∃p,p=ps[i]:=⟨_,rfl⟩;rw[<-hp]at hfl hfs hdr hpu hpb;have HU:Hid (∀W,Below w0.heap.size w0 W->W.cell? (A.add i)=some u):=λW hb=>(hb.cell (iK hu)).trans hu;have HPU:=aa hpu;obtain⟨adp,cpp,rfl,hcp,_⟩:=hpu;obtain⟨pre,hpre⟩:∃pre,pre=(ps.take i).flatten:=⟨_,rfl⟩;rw[<-hpre]at hfl hfs hol hS;have hpl:pre.length+p.length<=150:=FP
   have HFS:=aa hfs;have HDR:=aa hdr;have HPB:=aa hpb;clear hfl hfs hdr hu hpb hpre hp;obtain⟨P,hP⟩:∃P,P=p.length:=⟨_,rfl⟩;rw[<-hP]at hpl;have HP:=aa hP;rw[<-hP]at HPU HU hcp;clear hP;have hS':fo w0 wr ge ga gs gx n mo k c (crc 0 [pre++p.take 0]) bg false sp T live live bud [] (Xo++rs) ss:=by rw[mO,fF];exact hS
   have HO0:=aa hO;clear hS hO;go_wp2
   go_loopw[12,13,15] (λu12 u13 u15 wr=>∃(j F:Nat)(o' x z:ac)(bg:Bool)(Xo:ae),F=min j P/\j<=P+1000/\u15=.int .i64 j/\u13=.bool true/\Lies 1 Xo u12 z.length (vs .u8 z)/\l8 n bg o' z/\Hid (gV n (o,[]) p=gV n (o',x) (p.drop F))/\x.length<=F/\o'.length+25900*x.length<=25900*(pre.length+F)/\fo w0 wr ge ga gs gx n mo k c (crc 0 [pre++p.take F]) bg false sp T live live bud x (Xo++rs) ss) (λ_ _ u15 _=>P+1001-(intOf u15).toNat)
   case atStart=>exact⟨0,0,o,[],z,bg,Xo,FP,FP,rfl,rfl,HX.o,HO0.o,aa rfl,aX _,by simp only[bW];omega,hS'⟩
   case round=>
    clear hS' HX HO0;obtain⟨j,F,o',x,z,bg,Xo,hF,hj,rfl,rfl,hX,hO,HR,hxF,hol',hS⟩:=hrel;obtain⟨ao,co,rfl⟩:=hX.shape;have HX:=aa hX;have hzl:z.length<=5000000:=by have:=hO.len hHd;omega
    have HO:=aa hO;clear hX hO;rcases bF j P with hjP|hjP
    .obtain rfl:F=j:=FP
     have q2:decide ((F:Int)<P)=true:=az;obtain⟨h,hh⟩:∃h,h=min (F+sz) P:=⟨_,rfl⟩;have hh1:F<h:=FP
     have hh2:h<=P:=FP
     have hh3:min (F+sz) P=h:=hh.symm;have hmin:(if(P:Int)<(F:Int)+sz then(P:Int)else(F:Int)+sz)=(h:Int):=by split<;>omega
     have HHH:Hid (h=min (F+sz) P):=aa hh;have hsl:(seg p F h).length=h-F:=QJ (by rw[<-HP.o];omega);have HPN:=aa (ub n o' (seg p F h) [] x)
     have hpl2:(gV n ([],x) (seg p F h)).1.length+25900*(gV n ([],x) (seg p F h)).2.length<=25900*(x.length+(h-F))/\(gV n ([],x) (seg p F h)).2.length<=x.length+(h-F):=by
      have h1:=sF (n:=n) (seg p F h) [] x FP;have h2:([]:ac).length=0:=rfl;omega
     have HSEG:Hid (p.drop F=seg p F h++p.drop h):=aa (AeL FP)
     have HSEG2:Hid (p.take h=p.take F++seg p F h):=aa (by
      have e:(p.take h).take F++(p.take h).drop F=p.take h:=kC _ _;rw[List.take_take,qP FP]at e
      exact e.symm)
     have CW:Hid (∀W,fo w0 W ge ga gs gx n mo k c (crc 0 [pre++p.take F]) bg false sp T live live bud x (Xo++rs) ss->ak 53 #[.pointer (some ⟨ge,0,none⟩),.slice (D8 adp cpp F) (h-F) (cpp-F)] W λe w'=>∃X v2 d,e=.returned (.tuple #[v2,.int .i64 0])/\Lies 1 X v2 (bq n bg++(gV n ([],x) (seg p F h)).1).length (vs .u8 (bq n bg++(gV n ([],x) (seg p F h)).1))/\((gV n ([],x) (seg p F h)).2++d).length=bud/\Bytes ((gV n ([],x) (seg p F h)).2++d)/\(gV n ([],x) (seg p F h)).2.length<n/\Own w0 w' ((X++[(ge,gm n (gV n ([],x) (seg p F h)).2.length mo ga gs k c (crc 0 [(gV n ([],x) (seg p F h)).2]) (crc (crc 0 [pre++p.take F]) [seg p F h]) true false),(gs,IR .i64 sp T),(ga,AR (.slice (some ⟨gx,0,none⟩) bud bud) live live),(gx,B ((gV n ([],x) (seg p F h)).2++d))])++(Xo++rs)) ss):=λW hW=>YZ (o:=[]) HE.o (HPU.o.sub FP hh2) (λy hy=>HPB.o y (jB (iw hy))) FP hW
     have HPL:=aa hpl2;have hq3:decide (live<=(bud:Int))=true:=aW hllb;have hhd:=mC n2 bg;rw[fF]at HPN;generalize gV n ([],x) (seg p F h)=E at*;obtain⟨d0,hN0,hB0,hx0,hm⟩:=hS;have hEl:(bq n bg++E.1).length<=4000000:=by rw[aV];omega
     have HQ:Hid (∀q,bq n bg++E.1=q->l8 n true (o'++E.1) (z++q)):=λq e=>e▸HO.o.put;generalize hq:bq n bg++E.1=q at*;have HQ:=aa (HQ.o q rfl);clear hh hF hh3 hpl2 hq
     go_wp2_with(first
     |((with_reducible refine g5 ?_);refine uT [] [] hm ?_;clear hm;intro w _ hm)
     |refine A8 rfl (Am (k:=i) rfl HE34.o rfl rfl rfl hi2) ?_
     |refine A8 rfl (AU rfl rfl (ot rfl) (HU.o _ hm.below)) ?_
     |((with_reducible refine g6 ?_);refine j1 rfl rfl (λW=>Am (k:=i) rfl HE34.o rfl rfl rfl hi2) ?_)
     |((with_reducible refine g7 ?_);refine oE rfl rfl rfl (λW hm=>AU rfl rfl (ot rfl) (HU.o W hm.below)) ?_)
     |((with_reducible refine g6 ?_);refine j1 rfl rfl (λW=>ew (l:=F) (h:=h) rfl HE24.o rfl (.inr ⟨.i64,rfl⟩) (.inr ⟨.i64,rfl⟩) FP FP) ?_)
     |(go_at_call 53;refine(CW.o _ ⟨d0,hN0,hB0,hx0,hm⟩).mono ?_;clear hm;rintro e w⟨X,v2,d,rfl,hX2,hN,hB,hx2,hm⟩;obtain⟨a2,c2,rfl⟩:=hX2.shape;have HX2:=aa hX2;clear hX2)
     |(refine Ad rfl (GR (A:=X++[_,_,_,_]) (X:=Xo) hm rfl HM.o (Ac rfl) HX.o (Ac rfl) (λW h=>HX2.o.from (A:=[]) I4) (iP.1 k9) FP FP FP ?_);clear hm HX;intro Xo v3 w hX3 hm;obtain⟨ao,co,rfl⟩:=hX3.shape;have HX:=aa hX3;clear hX3;replace hm:=hm.sub ((bG X [_,_,_,_]).append (aY _)) (aY _);simp only[s2]at hm)
     |go_at_call 54;refine MP (DQ hm) ?_;clear hm;intro w hm
     |refine U ?_;try(clear hm;intro w gp hm))
     go_roundw
     case rel=>
      refine⟨F+sz,h,o'++E.1,E.2,z++q,true,Xo,HHH.o,FP,by go_num,rfl,by rw[aV,P7];exact HX.o,HQ.o,aa ?_,?_,?_,d,hN,hB,hx2,?_⟩
      .rw[HR.o,HSEG.o,Jn,HPN.o]
      .have:=HPL.o.2;omega
      .have:=HPL.o.1;rw[aV];omega
      .rw[HSEG2.o,<-aI,<-Se];exact hm
     case measure=>simp[intOf];omega
    .have q2:decide ((j:Int)<P)=false:=an;have hFP:F=P:=FP
     subst hFP;have hdrop:p.drop F=[]:=qh (by rw[<-HP.o];exact aX _);have htake:p.take F=p:=jC (by rw[<-HP.o];exact aX _);rw[hdrop]at HR;rw[htake]at hS;have hx150:x.length<=150:=FP
     have CFL:Hid (∀W,fo w0 W ge ga gs gx n mo k c (crc 0 [pre++p]) bg false sp T live live bud x (Xo++rs) ss->ak 55 #[.pointer (some ⟨ge,0,none⟩)] W λe w'=>∃X v2 d,e=.returned (.tuple #[v2,.int .i64 0])/\Lies 1 X v2 (bq n bg++df ([],x)).length (vs .u8 (bq n bg++df ([],x)))/\d.length=bud/\Bytes d/\Own w0 w' ((X++[(ge,gm n 0 mo ga gs k c 0 (crc 0 [pre++p]) true false),(gs,IR .i64 sp T),(ga,AR (.slice (some ⟨gx,0,none⟩) bud bud) live live),(gx,B d)])++(Xo++rs)) ss):=λW hW=>Ahb HE.o hx150 hW;have hfl1:=wt (o:=o') hx150;have hfp:=Mh o' [] x;rw[fF]at hfp;have hfl2:=wt (o:=[]) hx150;have HFL1:=aa hfl1;have HFP:=aa hfp;have hhd:=mC n2 bg
     have hEl:(bq n bg++df ([],x)).length<=4000000:=by
      have h2:([]:ac).length=0:=rfl;rw[aV];omega
     obtain⟨d0,hN0,hB0,hx0,hm⟩:=hS;clear hF hdrop htake hfl1 hfp hfl2;have HQ:Hid (∀q,bq n bg++df ([],x)=q->l8 n true (o'++df ([],x)) (z++q)):=λq e=>e▸HO.o.put;generalize hq:bq n bg++df ([],x)=q at*;have HQ:=aa (HQ.o q rfl);clear hq
     go_wp2_with(first
     |refine A8 rfl (Am (k:=i) rfl HE34.o rfl rfl rfl hi2) ?_
     |refine A8 rfl (AU rfl rfl (ot rfl) (HU.o _ hm.below)) ?_
     |(go_at_call 55;refine(CFL.o _ ⟨d0,hN0,hB0,hx0,hm⟩).mono ?_;clear hm;rintro e w⟨X,v2,d,rfl,hX2,hN,hB,hm⟩;obtain⟨a2,c2,rfl⟩:=hX2.shape;have HX2:=aa hX2;clear hX2)
     |(refine Ad rfl (GR (A:=X++[_,_,_,_]) (X:=Xo) hm rfl HM.o (Ac rfl) HX.o (Ac rfl) (λW h=>HX2.o.from (A:=[]) I4) (iP.1 k9) FP FP FP ?_);clear hm HX;intro Xo v3 w hX3 hm;obtain⟨ao,co,rfl⟩:=hX3.shape;have HX:=aa hX3;clear hX3;replace hm:=hm.sub ((bG X [_,_,_,_]).append (aY _)) (aY _);simp only[s2]at hm)
     |refine U ?_;try(clear hm;intro w gp hm))
     go_roundw
     case rel=>
      refine⟨i+1,df (o',x),z++q,true,Xo,FP,by go_num,rfl,by rw[aV,P7];exact HX.o,by rw[HFP.o];exact HQ.o,aa ?_,?_,d,hN,hB,n1,?_⟩
      .have h1:=HB.o;rw[HDR.o,iB,HR.o]at h1;exact h1
      .have h1:=HFL1.o;have h2:=HP.o;rw[HFS.o,aV];omega
      .rw[HFS.o,mA];exact hm
     case measure=>simp[intOf];omega
  .obtain rfl:i=L:=FP
   have q1:decide ((i:Int)<(ps.length:Int))=false:=aU (by have:=HL.o;omega);have q1b:decide (i<ps.length)=false:=aU (by have:=HL.o;omega);have hdrop:ps.drop i=[]:=qh (by rw[<-HL.o];exact aX _);have htake:ps.take i=ps:=jC (by rw[<-HL.o];exact aX _);rw[hdrop]at HB;rw[htake]at hS hol;have hca:=oP 0 ps.flatten
   have CC:Hid (∀W,fo w0 W ge ga gs gx n mo k c (crc 0 [ps.flatten]) bg false sp T live live bud [] (Xo++rs) ss->ak 56 #[.pointer (some ⟨ge,0,none⟩)] W λe w'=>∃X v2 l',e=.returned (.tuple #[v2,.int .i64 0])/\Lies 1 X v2 (bq n bg++(0::cj (crc 0 [ps.flatten]))).length (vs .u8 (bq n bg++(0::cj (crc 0 [ps.flatten]))))/\Own w0 w' ((X++[(ge,gm n 0 mo ga gs k c 0 (crc 0 [ps.flatten]) true true),(gs,IR .i64 sp T),(ga,AR (.slice (some ⟨gx,0,none⟩) bud bud) live live),(gx,B l')])++(Xo++rs)) ss):=λW hW=>by
    refine(Ai3 HE.o (x:=[]) (dD _) hca.1 hca.2 hW).mono ?_;rintro e w'⟨X,v2,l',rfl,hX2,h2⟩;exact⟨X,v2,l',rfl,hX2,by rw[aI];exact h2.perm (iy X [_,_,_,_] (Xo++rs))⟩
   have CM:Hid (∀W X R r2 r3 r4 ca,Own w0 W ((X++[(ge,gm n 0 mo ga gs k c 0 ca true true),r2,r3,r4])++R) ss->ak 57 #[.pointer (some ⟨ge,0,none⟩)] W (RO (.int .u8 mo) w0 ((X++[(ge,gm n 0 mo ga gs k c 0 ca true true),r2,r3,r4])++R) ss)):=λW X R r2 r3 r4 ca hW=>by
    refine(a1B (hW.perm (A7 X _ _ _ _ R))).mono ?_;rintro e w'⟨rfl,h2⟩;exact⟨rfl,h2.perm (A7 X _ _ _ _ R).symm⟩
   have CD:Hid (∀W R,Own w0 W R ss->ak 40 #[.int .i64 n,.int .u8 1,.int .u8 mo] W (RO (.tuple #[.int .i64 live,.int .i64 0]) w0 R ss)):=λW R hW=>by
    refine(Pol.rR 1 mo FU hwf).mono ?_;rintro e w'⟨rfl,hb⟩;exact⟨by rw[HLV.o,her],hW.call hb⟩
   have hhd:=mC n2 bg;have hzl:z.length<=4000000:=by have:=hO.len hHd;omega
   have hEl:(bq n bg++(0::cj (crc 0 [ps.flatten]))).length<=100:=by
    have:(0::cj (crc 0 [ps.flatten])).length=5:=rfl;rw[aV];omega
   have HQ:Hid (∀q,bq n bg++(0::cj (crc 0 [ps.flatten]))=q->z++q=em n ps):=λq e=>by
    have h1:=(hO.put (e:=0::cj (crc 0 [ps.flatten]))).1;have h2:=HB.o;rw[iB]at h2;rw[<-e,h1,aQ rfl,em,h2];simp only[aI]
   obtain⟨ca,hca2⟩:∃ca,ca=crc 0 [ps.flatten]:=⟨_,rfl⟩;rw[<-hca2]at CC hS HQ hEl;generalize hq:bq n bg++(0::cj ca)=q at*;have HQ:=aa (HQ.o q rfl);obtain⟨d0,hN0,hB0,hx0,hm⟩:=hS;clear hq hca hca2 hdrop htake her
   go_wp2_with(first
   |(go_at_call 56;refine(CC.o _ ⟨d0,hN0,hB0,hx0,hm⟩).mono ?_;clear hm;rintro e w⟨X,v2,d,rfl,hX2,hm⟩;obtain⟨a2,c2,rfl⟩:=hX2.shape;have HX2:=aa hX2;clear hX2)
   |go_at_call 57;refine MP (CM.o _ X _ _ _ _ _ hm) ?_;clear hm;intro w hm
   |go_at_call 40;refine MP (CD.o _ _ hm) ?_;clear hm;intro w hm
   |(refine Ad rfl (GR (A:=X++[_,_,_,_]) (X:=Xo) hm rfl HM.o (Ac rfl) HX.o (Ac rfl) (λW h=>HX2.o.from (A:=[]) I4) (iP.1 k9) FP FP FP ?_);clear hm HX;intro Xo v3 w hX3 hm;obtain⟨ao,co,rfl⟩:=hX3.shape;have HX:=aa hX3;clear hX3;replace hm:=hm.sub ((bG X [_,_,_,_]).append (aY _)) (aY _);simp only[s2]at hm)
   |go_at_call 54;refine MP (DQ hm) ?_;clear hm;intro w hm
   |refine U ?_;try(clear hm;intro w gp hm))
   go_ret2
   rw[<-HQ.o];exact⟨Xo,_,rfl,by rw[aV,P7];exact HX.o,hm.dropRow.dropRow.dropRow.dropRow⟩
section
variable{b m n s:Int}
section
variable{w0 w:FC}{rs:ae}{ss:O1}
def a0y(n1:1<=n)(n2:n<=65536)(hs:s=1\/s=2)(hmm:m=1\/m=2\/m=3)(hm:Own w0 w rs ss):ak 148 #[.int .i64 n,.int .u8 s,.int .u8 m] w λe w'=>∃g,e=.returned (.tuple #[.slice (some ⟨g,0,none⟩) (Pol.lay n s m).length (Pol.lay n s m).length,.int .i64 0])/\Own w0 w' ((g,IR .i64 (Pol.lay n s m) [])::rs) ss:=by
 have q1:decide (n<1)=false:=an;have q2:decide (65536<n)=false:=an;have ha:Pol.dt n s m:=⟨n1,n2,hs,hmm⟩;have HL:Hid (Pol.lay n s m=if s=1 then Pol.lk n m else Pol.lL n m):=aa (by rw[Pol.lay,aQ ha]);clear ha;obtain⟨r,hr,hr2⟩:∃r,Pol.rowsOf n=r/\((1024<n+1/\r=1024)\/(¬1024<n+1/\r=n+1)):=⟨_,rfl,by rw[Pol.rowsOf];split<;>omega⟩;have HR:=aa hr;clear hr;rcases hr2 with⟨h3,rfl⟩|⟨h3,rfl⟩<;>rcases hs with rfl|rfl<;>rcases hmm with rfl|rfl|rfl
 all_goals
  go_enter func148,ntmps148
  go_wp2_with(refine U ?_;try(clear hm;intro w gp hm))
  go_ret2
  rw[HL.o]
  first
  |exact⟨_,rfl,hm.alloc _ 3⟩
  |simp only[Pol.lk,fP,HR.o];exact⟨_,rfl,hm.alloc _ 3⟩
def VQ(n1:1<=n)(n2:n<=65536)(hs:s=1\/s=2)(hmm:m=1\/m=2\/m=3):(Pol.lay n s m).length<=3/\∀x∈Pol.lay n s m,0<=x/\x<=1000000:=by
 have ha:Pol.dt n s m:=⟨n1,n2,hs,hmm⟩;have hr:0<=Pol.rowsOf n/\Pol.rowsOf n<=1024:=by rw[Pol.rowsOf];split<;>omega
 rw[Pol.lay,aQ ha,Pol.lk,Pol.lL]
 repeat' split
 all_goals
  refine⟨G5,λx hx=>?_⟩;simp only[dh,qL,qM]at hx;omega
def AH{l:ac}(h:∀x∈l,0<=x/\x<=1000000):∀k:Nat,k<=l.length->0<=(l.take k).sum/\(l.take k).sum<=1000000*k
|0,_=>by simp
|k+1,hk=>by
  have h1:=AH h k FP;have h2:=h _ (cI l k FP);rw[FQ l k FP,qQ];simp only[mX,ng];omega
def Fk(n1:1<=n)(n2:n<=65536)(hs:s=1\/s=2)(hmm:m=1\/m=2\/m=3)(hm:Own w0 w rs ss):ak 109 #[.int .i64 n,.int .u8 s,.int .u8 m] w (RO (.tuple #[.int .i64 (Pol.need n s m),.int .i64 0]) w0 rs ss):=by
 have CL:Hid (∀W,Own w0 W rs ss->ak 148 #[.int .i64 n,.int .u8 s,.int .u8 m] W λe w'=>∃g,e=.returned (.tuple #[.slice (some ⟨g,0,none⟩) (Pol.lay n s m).length (Pol.lay n s m).length,.int .i64 0])/\Own w0 w' ((g,IR .i64 (Pol.lay n s m) [])::rs) ss):=λW h=>a0y n1 n2 hs hmm h;obtain⟨hl3,hlb⟩:=VQ n1 n2 hs hmm;rw[Pol.need];generalize Pol.lay n s m=l at*;have HS:=aa (AH hlb);have HB:=aa hlb;obtain⟨L,hL⟩:∃L,L=l.length:=⟨_,rfl⟩;rw[<-hL]at hl3 CL;have HLL:=aa hL;clear hlb hs hmm hL;go_enter func109,ntmps109
 go_wp2_with(first
 |go_at_call 148;refine(CL.o _ hm).mono ?_;clear hm;rintro e w⟨g,rfl,hm⟩
 |refine U ?_;try(clear hm;intro w gp hm))
 go_loopw[10,11] (λu10 u11 wr=>∃k:Nat,k<=L/\u11=.int .i64 k/\u10=.int .i64 (l.take k).sum/\Own w0 wr ((g,IR .i64 l [])::rs) ss) (λ_ u11 _=>L-(intOf u11).toNat)
 case atStart=>exact⟨0,FP,rfl,rfl,hm⟩
 case round=>
  clear hm;obtain⟨k,hk,rfl,rfl,hm⟩:=hrel;rcases bF k L with hlt|hge
  .have q1:decide ((k:Int)<L)=true:=az;have hkl:k<l.length:=by rw[<-HLL.o];exact hlt
   have h1:=HS.o k FP;have h2:=HB.o _ (cI l k hkl);have HSS:Hid ((l.take (k+1)).sum=(l.take k).sum+gi l k):=aa (by rw[FQ l k hkl,qQ];simp);have HC:Hid ((IR .i64 l [])[k]?=some (.int .i64 (gi l k))):=aa (kz hkl);generalize (l.take k).sum=x at*;generalize gi l k=y at*
   go_wp2_with(first
   |refine uI k ?_
   |((with_reducible refine g1 ?_);refine uL hm (hl:=.one (ot rfl) (by rw[cE];exact HC.o)) ?_)
   |refine U ?_;try(clear hm;intro w gp hm))
   go_roundw
   case rel=>exact⟨k+1,FP,by go_num,by rw[HSS.o],hm⟩
   case measure=>simp[intOf];omega
  .obtain rfl:k=L:=FP
   have q1:decide ((k:Int)<k)=false:=an;have HE:Hid ((l.take k).sum=l.sum):=aa (by rw[HLL.o,gY]);go_wp2
   go_ret2
   exact⟨by rw[<-HE.o];rfl,hm.dropRow⟩
def AhI(n1:1<=n)(n2:n<=65536)(hs:s=1\/s=2)(hm:Own w0 w rs ss):ak 108 #[.int .i64 n,.int .u8 s] w (RO (.tuple #[.int .i64 (Pol.need n s 1),.int .i64 0]) w0 rs ss):=by
 have CL:Hid (∀W,Own w0 W rs ss->ak 109 #[.int .i64 n,.int .u8 s,.int .u8 1] W (RO (.tuple #[.int .i64 (Pol.need n s 1),.int .i64 0]) w0 rs ss)):=λW h=>Fk n1 n2 hs (.inl rfl) h;go_enter func108,ntmps108
 go_wp2_with(first
 |go_at_call 109;refine MP (CL.o _ hm) ?_;clear hm;intro w hm
 |refine U ?_;try(clear hm;intro w gp hm))
 go_ret2
 exact⟨rfl,hm⟩
def a14(n1:1<=n)(n2:n<=65536)(hs:s=1\/s=2)(hb:b<=1048576)(hm:Own w0 w rs ss):ak 51 #[.int .i64 b,.int .i64 n,.int .u8 s] w λe w'=>∃m z,e=.returned (.tuple #[.int .u8 m,.int .i64 z])/\(z=0↔(Pol.pk b n s).2=0)/\Own w0 w' rs ss:=by
 have CL:Hid (∀W,Own w0 W rs ss->ak 108 #[.int .i64 n,.int .u8 s] W (RO (.tuple #[.int .i64 (Pol.need n s 1),.int .i64 0]) w0 rs ss)):=λW h=>AhI n1 n2 hs h;have CN:Hid (∀W m,(m=1\/m=2\/m=3)->Own w0 W rs ss->ak 109 #[.int .i64 n,.int .u8 s,.int .u8 m] W (RO (.tuple #[.int .i64 (Pol.need n s m),.int .i64 0]) w0 rs ss)):=λW m hmm h=>Fk n1 n2 hs hmm h;have ha:∀m:Int,m=1\/m=2\/m=3->Pol.dt n s m:=λm hm=>⟨n1,n2,hs,hm⟩;have q2:decide (1048576<b)=false:=an;by_cases hb1:b<1
 .have q1:decide (b<1)=true:=aW hb1;have HR:Hid (((2:Int)=0)↔(Pol.pk b n s).2=0):=aa (by rw[Pol.pk,aP λh=>by have:=h.2.1;omega]);clear hs ha hb1;exact ON
 .have q1:decide (b<1)=false:=aU hb1;have hbd:Pol.mr b:=⟨FP,FP⟩;have e:Pol.pk b n s=Pol.cm b n s 3:=by rw[Pol.pk,aQ ⟨ha 1 FP,hbd⟩]
  have v1:=Pol.nA (ha 1 FP);have v2:=Pol.nA (ha 2 FP);have v3:=Pol.nA (ha 3 FP);have hro:1<=Pol.rowsOf n:=by rw[Pol.rowsOf];split<;>omega
  have hmono:Pol.need n s 1<=Pol.need n s 2/\Pol.need n s 1<=Pol.need n s 3:=by
   simp only[show¬((2:Int)=1) by omega,show¬((3:Int)=1) by omega,show¬((3:Int)=2) by omega,show¬((1:Int)=3) by omega,show¬((2:Int)=3) by omega,fP,jq]at v1 v2 v3;rcases hs with rfl|rfl
   .simp only[fP]at v1 v2 v3;omega
   .simp only[show¬((2:Int)=1) by omega,jq]at v1 v2 v3;omega
  by_cases hlt:b<Pol.need n s 1
  .have q3:decide (b<Pol.need n s 1)=true:=aW hlt
   have HR:Hid (((230:Int)=0)↔(Pol.pk b n s).2=0):=aa (by
    rw[e,Pol.cm,aP (show¬Pol.need n s ((2+1:Nat):Int)<=b from λh=>by have:Pol.need n s 3<=b:=h;omega),Pol.cm,aP (show¬Pol.need n s ((1+1:Nat):Int)<=b from λh=>by have:Pol.need n s 2<=b:=h;omega),Pol.cm,aP (show¬Pol.need n s ((0+1:Nat):Int)<=b from λh=>by have:Pol.need n s 1<=b:=h;omega),Pol.cm])
   clear hs ha v1 v2 v3 hro hmono e hbd hb1;exact ON
  .have q3:decide (b<Pol.need n s 1)=false:=aU hlt
   have HR:Hid ((Pol.pk b n s).2=0):=aa (by
    rw[e,Pol.cm];split
    .rfl
    .rw[Pol.cm];split
     .rfl
     .have h:Pol.need n s ((0+1:Nat):Int)<=b:=Int.not_lt.1 hlt
      rw[Pol.cm,aQ h])
   clear hs ha v1 v2 v3 hro hmono e hbd hb1;go_enter func51,ntmps51
   go_wp2_with(first
   |go_at_call 108;refine MP (CL.o _ hm) ?_;clear hm;intro w hm
   |refine U ?_;try(clear hm;intro w gp hm))
   go_loopw[10,11] (λu10 u11 wr=>∃(k:Nat)(x:Int),1<=k/\k<=4/\u11=.int .u8 k/\u10=.int .u8 x/\Own w0 wr rs ss) (λ_ u11 _=>5-(intOf u11).toNat)
   case atStart=>exact⟨1,1,FP,FP,rfl,rfl,hm⟩
   case round=>
    clear hm;obtain⟨k,x,hk1,hk4,rfl,rfl,hm⟩:=hrel;rcases bF k 4 with hlt|hge
    .have q4:decide ((k:Int)<=3)=true:=az;have CM:=aa λW=>CN.o W (k:Int) FP;generalize Pol.need n s (k:Int)=z at*;by_cases hz:z<=b
     .have q5:decide (z<=b)=true:=aW hz
      exact Ms
     .have q5:decide (z<=b)=false:=aU hz
      exact Ms
    .have q4:decide ((k:Int)<=3)=false:=an;go_wp2
     go_ret2
     exact⟨_,_,rfl,⟨λ_=>HR.o,λ_=>rfl⟩,hm⟩
end
end
def gL(ps:List ac):Bool:=!decide (ps.length<=20/\ps.flatten.length<=150)
def a0R{ps:List ac}(h:20<ps.length\/150<ps.flatten.length):true=gL ps:=by
 rw[gL,aU FP];rfl
def Q1(ps:List ac)(k:Nat):((ps.take k).flatten).length<=ps.flatten.length:=by
 have e:(ps.take k++ps.drop k).flatten.length=ps.flatten.length:=by rw[kC]
 rw[vg,aV]at e;omega
section
variable{w0 w:FC}{rs:ae}{ss:O1}{ps:List ac}{v:NY}
def great(hv:lf w0 v ps)(hps:ps.length<=9223372036854775807)(hpl:∀p∈ps,p.length<=9223372036854775807)(hm:Own w0 w rs ss):ak 50 #[v] w (RO (.bool (gL ps)) w0 rs ss):=by
 obtain⟨ad,cp,rfl,hcells⟩:=hv;have HCL:=aa hcells;obtain⟨i34,hE34⟩:=wO;have HE34:=aa hE34;have HPL:=aa hpl;obtain⟨L,hL⟩:∃L,L=ps.length:=⟨_,rfl⟩;have HGT:Hid (20<L\/(∃k,150<((ps.take k).flatten).length)->true=gL ps):=λh=>a0R (h.elim (λh=>.inl FP) λ⟨k,h⟩=>.inr (by have:=Q1 ps k;omega));rw[<-hL]at hps⊢;have HL:=aa hL;clear hcells hE34 hpl hL;go_enter func50,ntmps50;go_wp2
 go_loopw[3,4] (λu3 u4 wr=>∃(k x:Nat),k<=L/\k<=21/\u4=.int .i64 k/\u3=.int .i64 x/\x<=350/\Hid ((x<=150->((ps.take k).flatten).length=x)/\x<=((ps.take k).flatten).length)/\Own w0 wr rs ss) (λ_ u4 _=>22-(intOf u4).toNat)
 case atStart=>exact⟨0,0,FP,FP,rfl,rfl,FP,aa ⟨λ_=>rfl,dD _⟩,hm⟩
 case round=>
  clear hm;obtain⟨k,x,hk,hk21,rfl,rfl,hx,HX,hm⟩:=hrel;rcases bF k L with hlt|hge
  .have q1:decide ((k:Int)<L)=true:=az;have q1b:decide (k<L)=true:=aW hlt;rcases bF 20 k with h20|h20
   .have q2:decide ((k:Int)<=20)=false:=an;have q3:decide ((20:Int)<L)=true:=az;have HZ:=aa (HGT.o (.inl FP));exact nL
   .have q2:decide ((k:Int)<=20)=true:=az;rcases bF 150 x with h150|h150
    .have q3:decide ((x:Int)<=150)=false:=an;have q5:decide ((150:Int)<x)=true:=az;have HZ:=aa (HGT.o (.inr ⟨k,by have:=HX.o.2;omega⟩));rcases bF 20 L with hL20|hL20
     .have q4:decide ((20:Int)<L)=true:=az;exact nL
     .have q4:decide ((20:Int)<L)=false:=an;exact nL
    .have q3:decide ((x:Int)<=150)=true:=az;have hkl:k<ps.length:=by rw[<-HL.o];exact hlt
     obtain⟨A,u,rfl,hu,hpu,_⟩:=HCL.o k hkl;have HU:Hid (∀W,Below w0.heap.size w0 W->W.cell? (A.add k)=some u):=λW hb=>(hb.cell (iK hu)).trans hu;have hpl:=HPL.o _ (dF hkl);have HN:Hid ((ps.take (k+1)).flatten=(ps.take k).flatten++ps[k]):=aa (Ee hkl);obtain⟨adp,cpp,rfl,_⟩:=hpu;obtain⟨P,hP⟩:∃P,P=ps[k].length:=⟨_,rfl⟩;have HP:=aa hP;rw[<-hP]at HU hpl;obtain⟨y,hy,hy2⟩:∃y:Nat,(if(200:Int)<P then(200:Int)else P)=(y:Int)/\y=min P 200:=⟨min P 200,by split<;>omega,rfl⟩;have HY:=aa hy2;have hyb:y<=200:=FP
     clear hu hP hy2
     go_wp2_with(first
     |refine A8 rfl (Am (k:=k) rfl HE34.o rfl rfl rfl hlt) ?_
     |refine A8 rfl (AU rfl rfl (ot rfl) (HU.o _ hm.below)) ?_)
     go_roundw
     case rel=>
      refine⟨k+1,x+y,FP,FP,by go_num,by go_num,FP,aa ?_,hm⟩;have h1:=HX.o.1 h150;have h2:=HY.o;have h3:=HP.o;rw[HN.o,aV];exact⟨λh=>FP,FP⟩
     case measure=>simp[intOf];omega
  .obtain rfl:k=L:=FP
   have q1:decide ((k:Int)<k)=false:=an;rcases bF 20 k with hL20|hL20
   .have q4:decide ((20:Int)<k)=true:=az;have HZ:=aa (HGT.o (.inl FP));exact nL
   .have q4:decide ((20:Int)<k)=false:=an;rcases bF 150 x with h150|h150
    .have q5:decide ((150:Int)<x)=true:=az;have HZ:=aa (HGT.o (.inr ⟨k,by have:=HX.o.2;omega⟩));exact nL
    .have q5:decide ((150:Int)<x)=false:=an
     have HZ:Hid (false=gL ps):=aa (by
      have h1:=HX.o.1 h150;have h2:=HL.o;rw[h2,gY]at h1;rw[gL,aW (show ps.length<=20/\ps.flatten.length<=150 by omega)]
      rfl)
     exact nL
def pO(ps:List ac)(n b cut:Int):Prop:=ps.length<=20/\ps.flatten.length<=150/\1<=n/\n<=20000/\b<=100000/\1<=cut/\cut<=1000/\(Pol.pk b n 1).2=0/\(Pol.pk b n 2).2=0
instance(ps:List ac)(n b cut:Int):Decidable (pO ps n b cut):=by unfold pO;infer_instance
def fT(ps:List ac)(n b cut:Int):Bool:=decide (pO ps n b cut)
def zp{ps:List ac}{n b cut:Int}(h:¬pO ps n b cut):false=fT ps n b cut:=(aU h).symm
def Ug(w0:FC)(ps:List ac)(n b cut:Int)(rs:ae)(ss:O1)(e:Ending)(w':FC):Prop:=e=.returned (.bool (fT ps n b cut))/\Own w0 w' rs ss
def MD(hv:lf w0 v ps)(hps:ps.length<=9223372036854775807)(hpl:∀p∈ps,p.length<=9223372036854775807){n b sz cut:Int}(s1:1<=sz)(s2:sz<=1000)(hm:Own w0 w rs ss):ak 15 #[.int .i64 n,.int .i64 b,.int .i64 b,v,.int .i64 sz,.int .i64 cut] w (Ug w0 ps n b cut rs ss):=by
 have CG:Hid (∀W,Own w0 W rs ss->ak 50 #[v] W (RO (.bool (gL ps)) w0 rs ss)):=λW h=>great hv hps hpl h;have CP:Hid (1<=n->n<=65536->b<=1048576->∀W s,(s=1\/s=2)->Own w0 W rs ss->ak 51 #[.int .i64 b,.int .i64 n,.int .u8 s] W λe w'=>∃m z,e=.returned (.tuple #[.int .u8 m,.int .i64 z])/\(z=0↔(Pol.pk b n s).2=0)/\Own w0 w' rs ss):=λh1 h2 h3 W s hs h=>a14 h1 h2 hs h3 h;have qa:decide (sz<1)=false:=an;have qb:decide (1000<sz)=false:=an
 have HGF:Hid (gL ps=false->ps.length<=20/\ps.flatten.length<=150):=λh=>by
  rw[gL,Bool.not_eq_false']at h;exact eF h
 clear hv hps hpl
 have h:gL ps=true\/(gL ps=false/\(n<1\/(¬n<1/\(20000<n\/(¬20000<n/\(100000<b\/(¬100000<b/\(cut<1\/(¬cut<1/\(1000<cut\/¬1000<cut)))))))))):=by
  cases gL ps
  .exact .inr ⟨rfl,FP⟩
  .exact .inl rfl
 rcases h with hg|⟨hg,p1|⟨p1,p2|⟨p2,p3|⟨p3,p4|⟨p4,p5|p5⟩⟩⟩⟩⟩
 all_goals
  rw[hg]at CG
  (try have HBF:Hid (false=fT ps n b cut):=aa (zp λh=>by first|exact absurd hg (by rw[gL,aW ⟨h.1,h.2.1⟩];decide)|(obtain⟨_,_,c1,c2,c3,c4,c5,_⟩:=h;omega)))
  (try first|(have q1:decide (n<1)=true:=aW p1)|(have q1:decide (n<1)=false:=aU p1))
  (try first|(have q2:decide (20000<n)=true:=aW p2)|(have q2:decide (20000<n)=false:=aU p2))
  (try first|(have q3:decide (100000<b)=true:=aW p3)|(have q3:decide (100000<b)=false:=aU p3))
  (try have q3b:decide (400000<b)=false:=an)
  (try first|(have q4:decide (cut<1)=true:=aW p4)|(have q4:decide (cut<1)=false:=aU p4))
  (try first|(have q5:decide (1000<cut)=true:=aW p5)|(have q5:decide (1000<cut)=false:=aU p5))
 rotate_right
 .have CQ:=aa (CP.o FP FP FP);have h0:=HGF.o hg;have HBT:Hid ((Pol.pk b n 1).2=0->(Pol.pk b n 2).2=0->true=fT ps n b cut):=λa c=>(aW (show pO ps n b cut from⟨h0.1,h0.2,FP,FP,FP,FP,FP,a,c⟩)).symm;have HB1:Hid (¬(Pol.pk b n 1).2=0->false=fT ps n b cut):=λh=>zp λh2=>h h2.2.2.2.2.2.2.2.1;have HB2:Hid (¬(Pol.pk b n 2).2=0->false=fT ps n b cut):=λh=>zp λh2=>h h2.2.2.2.2.2.2.2.2;clear h0 CP HGF hg p1 p2 p3 p4 p5;go_enter func15,ntmps15
  go_upto_region 4 with(first
  |go_at_call 50;refine MP (CG.o _ hm) ?_;clear hm;intro w hm
  |(go_at_call 51;refine(CQ.o _ _ (.inl rfl) hm).mono ?_;clear hm;rintro e w⟨m1,z1,rfl,hz1,hm⟩;have HZ1:=aa hz1;clear hz1)
  |refine U ?_;try(clear hm;intro w gp hm))
  go_upto_region 5 with(go_at_call 51;refine(CQ.o _ _ (.inr rfl) hm).mono ?_;clear hm;rintro e w⟨m2,z2,rfl,hz2,hm⟩;have HZ2:=aa hz2;clear hz2)
  by_cases e1:z1=0
  .have q7:(z1==0)=true:=iI.2 e1;have h1:=HZ1.o.1 e1;by_cases e2:z2=0
   .have q8:(z2==0)=true:=iI.2 e2;have HB:=aa (HBT.o h1 (HZ2.o.1 e2));clear e1 e2 h1;exact yd
   .have q8:(z2==0)=false:=lH.2 e2;have HB:=aa (HB2.o λh=>e2 (HZ2.o.2 h));clear e1 e2 h1;exact yd
  .have q7:(z1==0)=false:=lH.2 e1;have HB:=aa (HB1.o λh=>e1 (HZ1.o.2 h));clear e1;exact yd
 all_goals
  clear CP HGF hg;go_enter func15,ntmps15
  go_wp2_with(first
  |go_at_call 50;refine MP (CG.o _ hm) ?_;clear hm;intro w hm
  |refine U ?_;try(clear hm;intro w gp hm))
  go_ret;exact⟨by rw[<-HBF.o];rfl,hm⟩
end
open Go Go.RowKit
section
variable{M c:Int}{R a b x:ac}{i n:Nat}
def ke(ha:Bytes a)(hb:Bytes b):Bytes (a++b):=λx hx=>(dG.1 hx).elim (ha x) (hb x)
def a1J:Bytes (dN n):=by
 induction n using Nat.strongRecOn with
|_ n ih=>
  rw[dN];split
  .exact λx hx=>(by cases hx)
  .intro x hx;rcases dh.1 hx with rfl|hx
   .omega
   .exact ih _ FP x hx
def zr(n:Nat):Bytes (cn n):=λx hx=>by
 rw[cn,List.mem_reverse]at hx;rcases dh.1 hx with rfl|hx
 .omega
 .exact a1J x hx
def DM(h0:0<=c)(h1:c<=4294967295):Bytes (cj c):=λx hx=>by
 simp only[cj,dh,qL,qM]at hx;omega
def Ev:Bytes (fg x):=by
 have hc:=oP 0 x;have hL:=xM (tally (eD (cF x.reverse).1));have h1:=(tR hL.1 hL.2).1
 have h2:Bits (mI (cF x.reverse).1):=by
  rw[mI,kg];split
  .exact yp _ _ _ h1 _
  .exact h1
 rw[fg,nj,mH];refine ke ?_ (AdA h2);simp only[vk,wR];exact ke (λy hy=>by rw[fC.1 hy];decide) (ke (zr _) (ke (zr _) (ke (DM hc.1 hc.2) λy hy=>(by cases hy))))
def z6{n:Nat}:∀(b o x:ac),Bytes o->Bytes (gV n (o,x) b).1
|[],_,_,h=>h
|y::b,o,x,h=>by
  show Bytes (gV n (gF n (o,x) y) b).1;rw[gF];split
  .exact z6 b _ _ (ke h Ev)
  .exact z6 b _ _ h
def a1r{s:ac×ac}(h:Bytes s.1):Bytes (df s):=by
 rw[df];split
 .exact ke h Ev
 .exact h
def Mz{n:Nat}:∀(ps:List ac)(o:ac),Bytes o->Bytes (iB n ps o)
|[],_,h=>h
|p::ps,o,h=>Mz ps _ (a1r (z6 p o [] h))
def Mn{n:Nat}:∀(ps:List ac)(o:ac),ps.flatten.length<=150->(iB n ps o).length<=o.length+25900*ps.flatten.length
|[],o,_=>Nat.le_add_right _ _
|p::ps,o,h=>by
  rw[vk,aV]at h⊢;have h0:([]:ac).length=0:=rfl;have h1:=sF (n:=n) p o [] FP;have h2:=wt (o:=(gV n (o,[]) p).1) (x:=(gV n (o,[]) p).2) FP;have h3:=Mn (n:=n) ps (df (gV n (o,[]) p)) FP;have e:df ((gV n (o,[]) p).1,(gV n (o,[]) p).2)=df (gV n (o,[]) p):=rfl;rw[e]at h2;rw[iB];omega
def El(n2:n<=65536){ps:List ac}(hT:ps.flatten.length<=150):Bytes (em n ps)/\9<=(em n ps).length/\(em n ps).length<=3900000:=by
 have hc:=oP 0 ps.flatten;have h1:=ka n FP;have h2:=Mn (n:=n) ps [] hT;have h0:([]:ac).length=0:=rfl;have h5:(0::cj (crc 0 [ps.flatten])).length=5:=rfl;refine⟨?_,?_,?_⟩
 .rw[em];refine ke (ke (ke ?_ (zr n)) (Mz ps [] λy hy=>(by cases hy))) ?_
  .intro y hy;simp only[dh,qL,qM]at hy;omega
  .intro y hy;rcases dh.1 hy with rfl|hy
   .decide
   .exact DM hc.1 hc.2 y hy
 .rw[em,aV,aV,aV,h5];simp only[bD,bW];omega
 .rw[em,aV,aV,aV,h5];simp only[bD,bW];omega
def AhL{V:Int}(h1:EL V M c 65536=true)(h2:EZ M c=false):b8 ⟨3,V,M⟩ (c::R)=b8 ⟨3,D5 V M c,EM M c⟩ R:=by
 rw[b8,HT.step];simp[h1,h2]
def Afv{V:Int}(h1:EL V M c 65536=true)(h2:EZ M c=true):b8 ⟨3,V,M⟩ (c::R)=.ok (D5 V M c,R):=by
 rw[b8,HT.step];simp[h1,h2]
def a1n:b8 ⟨0,0,0⟩ (87::80::1::R)=b8 ⟨3,0,0⟩ R:=by
 simp[b8,HT.step]
def UP(n1:1<=n)(n2:n<=20000):(cn n).length<=3/\∀R,b8 ⟨3,0,0⟩ (cn n++R)=.ok ((n:Int),R):=by
 have hgo:∀(V M:Int)(k:Nat)R,1<=V*128+k->V*128+k<=65536->0<=M->k<128->¬((k:Int)=0/\M=0)->b8 ⟨3,V,M⟩ (((k:Int)+128)::R)=b8 ⟨3,V*128+k,M+1⟩ R:=λV M k R h1 h2 h3 h4 h5=>by
  have e:cQ V ((k:Int)+128)=V*128+k:=by rw[cQ];omega
  have hne:¬((k:Int)+128=128/\M=0):=FP
  rw[AhL (by rw[EL,e];exact aW ⟨hne,h2,.inl FP⟩) (by rw[EZ];exact aU FP),D5,EM,aP hne,aP hne,e]
 have hdn:∀(V M:Int)(k:Nat)R,1<=V*128+k->V*128+k<=65536->k<128->b8 ⟨3,V,M⟩ ((k:Int)::R)=.ok (V*128+k,R):=λV M k R h1 h2 h4=>by
  have e:cQ V (k:Int)=V*128+k:=by rw[cQ];omega
  have hne:¬((k:Int)=128/\M=0):=FP
  rw[Afv (by rw[EL,e];exact aW ⟨hne,h2,.inr FP⟩) (by rw[EZ];exact aW ⟨hne,FP⟩),D5,aP hne,e]
 have hv0:dN 0=[]:=by rw[dN];simp
 have hv:∀k:Nat,1<=k->dN k=(((k%128:Nat):Int)+128)::dN (k/128):=λk hk=>by
  rw[dN];split
  .omega
  .push_cast;rfl
 rcases bF n 128 with h|h
 .have e:cn n=[((n%128:Nat):Int)]:=by rw[cn,show n/128=0 by omega,hv0];rfl
  rw[e];refine⟨G5,λR=>?_⟩;rw[eG,(iY),hdn 0 0 (n%128) R FP FP FP]
  congr 2
  omega
 .rcases bF n 16384 with h2|h2
  .have e:cn n=[(((n/128%128:Nat):Int)+128),((n%128:Nat):Int)]:=by rw[cn,hv _ FP,show n/128/128=0 by omega,hv0];rfl
   rw[e];refine⟨G5,λR=>?_⟩;rw[eG,eG,(iY),hgo 0 0 (n/128%128) _ FP FP FP FP FP,hdn _ _ (n%128) R FP FP FP]
   congr 2
   omega
  .have e:cn n=[(((n/128/128%128:Nat):Int)+128),(((n/128%128:Nat):Int)+128),((n%128:Nat):Int)]:=by rw[cn,hv _ FP,hv _ FP,show n/128/128/128=0 by omega,hv0];rfl
   rw[e];refine⟨G5,λR=>?_⟩;rw[eG,eG,eG,(iY),hgo 0 0 (n/128/128%128) _ FP FP FP FP FP,hgo _ _ (n/128%128) _ FP FP FP FP FP,hdn _ _ (n%128) R FP FP FP]
   congr 2
   omega
def Xr(n1:1<=n)(n2:n<=20000)(ps:List ac)(hi:6<=i)(y:Int):∃R,b8 ⟨0,0,0⟩ ((em n ps).set i y)=.ok ((n:Int),R):=by
 obtain⟨h1,h2⟩:=UP n1 n2;have e:em n ps=([87,80,1]++cn n)++(iB n ps []++(0::cj (crc 0 [ps.flatten]))):=by rw[em,aI]
 have hl:([87,80,1]++cn n:ac).length<=i:=by
  rw[aV];simp only[bD,bW];omega
 rw[e,ru _ _ hl,aI];generalize (iB n ps []++(0::cj (crc 0 [ps.flatten]))).set _ y=q;exact⟨q,(a1n).trans (h2 q)⟩
end
end Go.Proofs.YtkpbhdhkdonghaaGreat

set_option linter.all false
namespace Go.Proofs.YtkpbhdhkdonghaaGreat
open Go Go.RowKit
section
variable{c:Cf}{e e' mo n:Int}{x:ac}{b:Nat}
def As{r l:ac}(hs:starved c=false\/r=[])(hI:∀t,c.s=.head t->b8 t (c.R++r)=b8 ⟨0,0,0⟩ l):(∀t,(AB c).2.s=.head t->b8 t ((AB c).2.R++r)=b8 ⟨0,0,0⟩ l)/\(∀n,(AB c).1=some (.head n)->∃R2,b8 ⟨0,0,0⟩ l=.ok (n,R2))/\(∀e,(AB c).1=some (.bad e)->c.s.ph=0->∃e',b8 ⟨0,0,0⟩ l=.error e')/\((AB c).1=none->(AB c).2.s.ph=c.s.ph):=by
 obtain⟨s,R,j⟩:=c;cases s with
|head t=>
  have h0:=hI t rfl;cases R with
 |nil=>
   rcases hs with hs|rfl
   .cases hs
   .refine⟨λt h=>G6,λn h=>G6,λe h _=>?_,λh=>G6⟩;rw[<-h0];exact⟨50,rfl⟩
 |cons x R=>
   simp only[eG,b8]at h0;simp only[AB];cases hx:t.step x with
  |go t2=>
    rw[hx]at h0;exact⟨λt h=>(by cases h;exact h0),λn h=>G6,λe h=>G6,λ_=>rfl⟩
  |done n=>
    rw[hx]at h0;exact⟨λt h=>G6,λn h=>(by cases h;exact⟨_,h0.symm⟩),λe h=>G6,λh=>G6⟩
  |bad e=>
    rw[hx]at h0;exact⟨λt h=>G6,λn h=>G6,λe h _=>⟨_,h0.symm⟩,λh=>G6⟩
|mark n t=>
  cases R with
 |nil=>exact⟨λt h=>G6,λn h=>G6,λe _ h=>G6,λh=>G6⟩
 |cons x R=>
   simp only[AB];cases t.step n x<;>exact⟨λt h=>G6,λn h=>G6,λe _ h=>G6,λh=>(by first|rfl|cases h)⟩
|table n m p s t=>
  simp only[AB];split
  .simp only[Oj];split
   .split<;>exact⟨λt h=>G6,λn h=>G6,λe _ h=>G6,λh=>(by first|rfl|cases h)⟩
   .exact Gc
  .exact Gc
|syms n m p s L q k b=>
  simp only[AB];split
  .simp only[eY];split
   .generalize FY b (aR L q k (AP R j)).2.2.1=d;simp only[MQ];split
    .cases d.2.2.1<;>exact⟨λt h=>G6,λn h=>(by split at h<;>cases h),λe _ h=>G6,λh=>rfl⟩
    .exact Bk
   .exact⟨λt h=>G6,λn h=>G6,λe _ h=>G6,λh=>rfl⟩
  .exact Bk
|pad n m p s=>
  exact IF
|behind=>
  exact IF
|over=>exact⟨λt h=>G6,λn h=>G6,λe _ h=>G6,λh=>G6⟩
|bad e=>exact⟨λt h=>G6,λn h=>G6,λe _ h=>G6,λh=>G6⟩
def Pn{en:Bool}{r:ac}(hr:en=true->r=[]):br en c=(some .need,c)\/(br en c=AB c/\(starved c=false\/r=[])):=by
 unfold br;split
 .exact .inl rfl
 .rename_i h;refine .inr ⟨rfl,?_⟩;cases en with
 |true=>exact .inr (hr rfl)
 |false=>exact .inl GU
def cJ.hd{en:Bool}{c2:Cf}{ev:ba}{r l:ac}(h:cJ en c ev c2)(hr:en=true->r=[])(hI:∀t,c.s=.head t->b8 t (c.R++r)=b8 ⟨0,0,0⟩ l):(∀t,c2.s=.head t->b8 t (c2.R++r)=b8 ⟨0,0,0⟩ l)/\(∀n,ev=.head n->∃R2,b8 ⟨0,0,0⟩ l=.ok (n,R2))/\(∀e,ev=.bad e->c.s.ph=0->∃e',b8 ⟨0,0,0⟩ l=.error e'):=by
 induction h with
|now h=>
  rename_i c ev c2;rcases Pn (c:=c) hr with h1|⟨h1,hs⟩
  .rw[h1]at h;cases h;exact⟨hI,λn h=>G6,λe h=>G6⟩
  .rw[h1]at h;obtain⟨a,b,d,_⟩:=As hs hI;rw[h]at a b d;exact⟨a,λn e=>b n (by rw[e]),λe e1 e2=>d e (by rw[e1]) e2⟩
|later h hn ih=>
  rename_i c ev c2;rcases Pn (c:=c) hr with h1|⟨h1,hs⟩
  .rw[h1]at h;cases h
  .obtain⟨a,b,d,f⟩:=As hs hI;rw[h1]at h ih;obtain⟨i1,i2,i3⟩:=ih a;exact⟨i1,i2,λe e1 e2=>i3 e e1 (by rw[f h];exact e2)⟩
def cJ.U5{en:Bool}{c c2:Cf}{ev:ba}{N m p q g:Int}(h:cJ en c ev c2)(hE:EI c N m p q g):∀k a b,ev=.U5 k a b->a=p/\b=q:=by
 induction h with
|now h=>
  rename_i c ev c2;intro k a b e;subst e
  have h1:(AB c).1=some (.U5 k a b):=by
   unfold br at h;split at h
   .cases h
   .rw[h]
  obtain⟨s,R,j⟩:=c;cases s with
 |head t=>
   cases R with
  |nil=>cases h1
  |cons x R=>simp only[AB]at h1;cases hx:t.step x<;>rw[hx]at h1<;>cases h1
 |mark n t=>
   cases R with
  |nil=>cases h1
  |cons x R=>simp only[AB]at h1;cases hx:t.step n x<;>rw[hx]at h1<;>cases h1
 |table n m p s t=>
   simp only[AB,Oj]at h1
   repeat' split at h1
   all_goals cases h1
 |syms n m p s L q k b=>
   simp only[AB,eY,MQ]at h1
   repeat' split at h1
   all_goals cases h1
 |pad n m2 p2 s2=>
   have hd:=hE.2.2.1;simp only[AB]at h1;split at h1
   .cases h1;exact⟨hd.2.2.2.2.1.symm,hd.2.2.2.2.2.1.symm⟩
   .cases h1
 |behind=>simp only[AB]at h1;split at h1<;>cases h1
 |over=>cases h1
 |bad e=>cases h1
|later h hn ih=>
  rename_i c ev c2
  have h1:br en c=AB c:=by
   unfold br at h⊢;split
   .rename_i h2;rw[aQ h2]at h;cases h
   .rfl
  rw[h1]at h ih;have:=hE.step;rw[h]at this;exact ih this.2.2
def pend(s:Dk):ac:=match s.bk with
|none=>[]
|some w=>ea w.col w.ix (w.col.length-w.k) w.r
def Dk.oo(s:Dk):ac:=if s.c.s.ph=2 then s.out else[]
def G0(l:ac):ac×Nat×Int:=G ⟨.head ⟨0,0,0⟩,l,0⟩ [] [] 0
def cU(bud:Int)(l:ac):ac×Int:=match b8 ⟨0,0,0⟩ l with
|.ok (n,_)=>if(Pol.pk bud n 2).2=0 then((G0 l).1,(G0 l).2.2)else([],(Pol.pk bud n 2).2)
|.error _=>((G0 l).1,(G0 l).2.2)
structure TI(bud:Int)(l:ac)(s:Dk)(tl rem:ac):Prop where
 hd:s.e=0->∀t,s.c.s=.head t->b8 t (s.c.R++rem)=b8 ⟨0,0,0⟩ l
 ok:s.e=0->s.hd=none->tl=[]/\s.bk=none
 hn:∀n mo,s.hd=some (n,mo)->(∃R2,b8 ⟨0,0,0⟩ l=.ok (n,R2))/\Pol.pk bud n 2=(mo,0)
 go:s.e=0->∃b,G (s.c.ext rem) s.oo (tl++pend s) b=G0 l
 all:s.all=fS 0 tl
 er:s.e≠0->cU bud l=(tl,s.e)
section
variable{bud:Int}{en:Bool}{s s2:Dk}{c2:Cf}{ev:ba}{l tl rem:ac}{r:dC}
def DI.j(h:DI s)(he:s.e=0):s.c.j<=8*s.c.R.length:=by
 have:=h.hd he;cases hd:s.hd with
|none=>rw[hd]at this;exact(this.2 0 0 0 0 0).2.1
|some o=>rw[hd]at this;exact this.2.2.1
def cU.of(h:∃R2,b8 ⟨0,0,0⟩ l=.ok (n,R2))(hp:Pol.pk bud n 2=(mo,0))(hG:G0 l=(x,b,e)):cU bud l=(x,e):=by
 obtain⟨R2,h⟩:=h;unfold cU;rw[h];simp only[hp,hG,fP]
def cU.no(h:b8 ⟨0,0,0⟩ l=.error e')(hG:G0 l=(x,b,e)):cU bud l=(x,e):=by
 unfold cU;rw[h];simp only[hG]
def TI.act(hI:DI s)(h:TI bud l s tl rem)(he:s.e=0)(hk:s.bk=none)(hN:cJ en s.c ev c2)(hr:en=true->rem=[])(ha:ev.act=true)(hz:∀e,ev=.bad e->e≠0):TI bud l (s.act bud c2 ev) tl rem:=by
 obtain⟨N,h1,h2,h3,hev⟩:=hI.ev he hN;obtain⟨d1,d2,d3⟩:=hN.hd hr (h.hd he);obtain⟨b,hG⟩:=h.go he;have hp:pend s=[]:=by rw[pend,hk]
 rw[hp,fF,hN.G (hI.j he) hr]at hG;have hn0:s.c.s.ph=0->s.hd=none/\tl=[]:=λh=>⟨DI.pL h3 h,(Gq:TI bud l s tl rem).ok he (DI.pL h3 h)|>.1⟩;cases ev with
|head n=>
  obtain⟨hd0,rfl⟩:=hn0 hev.1;obtain⟨R2,hR2⟩:=d2 n rfl;have hoo:s.oo=[]:=by rw[Dk.oo,aP Gw]
  rw[Dk.act];split
  .rename_i h0;refine⟨λ_=>d1,λ_ h=>G6,λn' mo' h=>?_,λ_=>⟨b,?_⟩,h.all,λh=>absurd he h⟩
   .cases h;exact⟨⟨R2,hR2⟩,uF rfl h0⟩
   .rw[show pend {s with c:=c2,hd:=some (n,(Pol.pk bud n 2).1)}=[]from hp,show Dk.oo {s with c:=c2,hd:=some (n,(Pol.pk bud n 2).1)}=[]from aP (by show¬c2.s.ph=2;rw[hev.2.1];decide)];rw[hoo]at hG;exact hG
  .rename_i h0;refine⟨λh=>absurd h h0,λh=>absurd h h0,λn' mo' h=>?_,λh=>absurd h h0,h.all,λ_=>?_⟩
   .simp only[hd0]at h;cases h
   .unfold cU;rw[hR2];simp only[h0,jq]
|block k a b'=>
  refine⟨λ_=>d1,h.ok,h.hn,λ_=>⟨b,?_⟩,h.all,λh=>absurd he h⟩;show G (c2.ext rem) (if c2.s.ph=2 then[]else[]) (tl++pend s) b=_;rw[ite_self,hp,fF];exact hG
|bytes t=>
  refine⟨λ_=>d1,h.ok,h.hn,λ_=>⟨b,?_⟩,h.all,λh=>absurd he h⟩;show G (c2.ext rem) (if c2.s.ph=2 then s.out++t else[]) (tl++pend s) b=_;rw[aQ hev.2.1,hp,fF];rw[Dk.oo,aQ hev.1]at hG;exact hG
|tail q=>
  obtain⟨mo,hd⟩:=DI.j3 h2 h1 Gw;have hoo:s.oo=[]:=by rw[Dk.oo,aP Gw]
  rw[hoo]at hG;have hG':(if q=crc 0 [tl]then G (c2.ext rem) [] tl b else(tl,b,260))=G0 l:=hG;rw[<-P6,<-h.all]at hG';rw[Dk.act];split
  .rename_i h0;rw[aQ h0]at hG';refine⟨λ_=>d1,h.ok,h.hn,λ_=>⟨b,?_⟩,h.all,λh=>absurd he h⟩;show G (c2.ext rem) (if c2.s.ph=2 then s.out else[]) (tl++pend s) b=_;rw[aP (by rw[hev.2.1];decide),hp,fF];exact hG'
  .rename_i h0;rw[aP h0]at hG';have hne:¬(260:Int)=0:=FU
   refine⟨λh=>absurd h hne,λh=>absurd h hne,h.hn,λh=>absurd h hne,h.all,λ_=>?_⟩;exact cU.of (h.hn _ _ hd).1 (h.hn _ _ hd).2 hG'.symm
|bad e=>
  have hne:=hz e rfl;have hG':(tl,b,e)=G0 l:=hG;refine⟨λh=>absurd h hne,λh=>absurd h hne,h.hn,λh=>absurd h hne,h.all,λ_=>?_⟩;show cU bud l=(tl,e);cases hd:s.hd with
 |none=>
   obtain⟨e',h'⟩:=d3 e rfl (h2 hd);exact cU.no h' hG'.symm
 |some o=>exact cU.of (h.hn _ _ hd).1 (h.hn _ _ hd).2 hG'.symm
|U5 k a b'=>
  obtain⟨mo,hd⟩:=DI.j3 h2 h1 Gw;have hEI:=hI.hd he;rw[hd]at hEI;obtain⟨rfl,rfl⟩:=hN.U5 hEI.2 k a b' rfl
  have hG':(match chk s.oo s.p s.q with
  |.error e=>(tl,b,e)
  |.ok t=>G (c2.ext rem) [] (tl++t) (b+1))=G0 l:=hG
  rw[Dk.oo,aQ hev.1,Y']at hG';show TI bud l (s.ends c2) tl rem;rw[Dk.ends];split
  .rename_i hv;rw[aQ hv]at hG';split
   .rename_i hc;rw[aQ hc]at hG';refine⟨λ_=>d1,λ_ h=>absurd (hd.symm.trans h) I7,h.hn,λ_=>⟨b+1,?_⟩,h.all,λh=>absurd he h⟩;show G (c2.ext rem) (if c2.s.ph=2 then s.out else[]) (tl++ea s.out s.p.toNat (s.out.length-0) 0) (b+1)=_;rw[aP (by rw[hev.2.1];decide),jc];exact hG'
   .rename_i hc;rw[aP hc]at hG';have hne:¬(250:Int)=0:=FU
    exact Fw
  .rename_i hv;rw[aP hv]at hG';have hne:¬(170:Int)=0:=FU
   exact Fw
|fin=>cases ha
|need=>cases ha
def Q'(bud:Int)(l:ac)(s2:Dk)(tl rem:ac):dC->Prop
|.byte b=>TI bud l s2 (tl++[b]) rem
|.need=>TI bud l s2 tl rem
|.fin=>cU bud l=(tl,0)
|.bad e=>cU bud l=(tl,e)/\e≠0
def DN.ti(h:DN bud en s r s2)(hI:DI s)(hT:TI bud l s tl rem)(hr:en=true->rem=[]):Q' bud l s2 tl rem r:=by
 induction h with
|err h=>exact⟨hT.er h,h⟩
|byte he hb=>
  rename_i s w;obtain⟨b1,b2,b3⟩:=hI.bk he w hb;obtain⟨q0,_,_,_⟩:=b2.step;have hk:=b2.k;obtain⟨i,hi⟩:∃i,w.col.length-w.k=i+1:=⟨w.col.length-w.k-1,FP⟩
  have hp:pend s=w.byte::ea w.col w.ix i (bc w.col (Iw w.ix w.r)).toNat:=by
   rw[pend,hb];show ea w.col w.ix (w.col.length-w.k) w.r=_;rw[hi,ea,aP q0];rfl
  have hall:crc s.all [[w.byte]]=fS 0 (tl++[w.byte]):=by rw[hT.all,fS,fS,lG];rfl
  obtain⟨b,hG⟩:=hT.go he;rw[hp]at hG
  have hh:∀s':Dk,s'.hd=s.hd->s'.e=s.e->s'.c=s.c->s'.out=s.out->s'.all=crc s.all [[w.byte]]->pend s'=ea w.col w.ix i (bc w.col (Iw w.ix w.r)).toNat->TI bud l s' (tl++[w.byte]) rem:=λs' e1 e2 e3 e4 e5 e6=>by
   refine⟨λh=>by rw[e3];exact hT.hd (e2▸h),λh h'=>absurd (hb.symm.trans (hT.ok (e2▸h) (e1▸h')).2) I7,λn mo h=>hT.hn n mo (e1▸h),λ_=>⟨b,?_⟩,by rw[e5,hall],λh=>absurd he (e2▸h)⟩;rw[e3,e6,show s'.oo=s.oo by rw[Dk.oo,Dk.oo,e3,e4],aI];exact hG
  show TI bud l (s.tell w) (tl++[w.byte]) rem;rw[Dk.tell];split
  .rename_i hm;have:i=0:=FP
   subst this;exact hh _ rfl rfl rfl rfl rfl rfl
  .rename_i hm;refine hh _ rfl rfl rfl rfl rfl ?_;show ea w.col w.ix (w.col.length-(w.k+1)) _=_;rw[show w.col.length-(w.k+1)=i by omega];rfl
|need he hb hN=>
  rename_i s c2;obtain⟨N,h1,h2,h3,hev⟩:=hI.ev he hN;obtain⟨d1,d2,d3⟩:=hN.hd hr (hT.hd he);obtain⟨b,hG⟩:=hT.go he;rw[hN.G (hI.j he) hr]at hG;refine⟨λ_=>d1,hT.ok,hT.hn,λ_=>⟨b,?_⟩,hT.all,λh=>absurd he h⟩;show G (c2.ext rem) (if c2.s.ph=2 then s.out else[]) (tl++pend s) b=_;rw[hev.1];exact hG
|fin he hb hN=>
  rename_i s c2;obtain⟨N,h1,h2,h3,hev⟩:=hI.ev he hN;obtain⟨mo,hd⟩:=DI.j3 h2 h1 Gw;obtain⟨b,hG⟩:=hT.go he;rw[hN.G (hI.j he) hr,pend,hb]at hG;have hG':(tl++[],b,(0:Int))=G0 l:=hG;rw[fF]at hG';exact cU.of (hT.hn _ _ hd).1 (hT.hn _ _ hd).2 hG'.symm
|act he hb hN ha hz _ ih=>exact ih (hI.act he hb hN ha hz) (hT.act hI he hb hN hr ha hz)
def TI.feed{m:ac}(h:TI bud l s tl (m++rem)):TI bud l (s.feed m) tl rem:=by
 refine⟨λhe t ht=>?_,h.ok,h.hn,λhe=>?_,h.all,h.er⟩
 .have:=h.hd he t ht;show b8 t ((s.c.R++m)++rem)=_;rw[aI];exact this
 .obtain⟨b,hG⟩:=h.go he;refine⟨b,?_⟩;have e:(s.feed m).c.ext rem=s.c.ext (m++rem):=by simp only[Dk.feed,Cf.ext,aI]
  rw[e];exact hG
def TI.start:TI bud l nB [] l:=by
 refine⟨λ_ t h=>?_,λ_ _=>⟨rfl,rfl⟩,λn mo h=>G6,λ_=>⟨0,rfl⟩,rfl,λh=>absurd rfl h⟩;cases h;rfl
end
end
end Go.Proofs.YtkpbhdhkdonghaaGreat

set_option linter.all false
namespace Go.Proofs.YtkpbhdhkdonghaaGreat
open Go Go.RowKit
structure oa(w:Wk)(n b:Int):Prop where
 i1:1<=w.ix
 i2:w.ix<=w.col.length
 r:w.r<=w.col.length
 by':Bytes w.col
 n1:(w.col.length:Int)<=n
 b1:1<=b
 d:w.d=0\/(b=n\/b=w.d)
def oa.cost{w:Wk}{n b:Int}(h:oa w n b)(hr:w.r≠w.ix):0<=w.cost/\w.cost<=b/\oa w.next n b:=by
 obtain⟨i1,i2,r,hb,n1,b1,d⟩:=h;have hc:=lA i1 i2 r hr;have ha:=sR hb (Iw w.ix w.r) hc;refine⟨?_,?_,⟨i1,i2,ha.2,hb,n1,b1,d⟩⟩
 .rw[Wk.cost];split<;>omega
 .rw[Wk.cost];split
  .exact b1
  .rename_i h0;have hm:=sD (Iw w.ix w.r) (show w.d>0 by omega);have hl:=Nat.mod_le (Iw w.ix w.r) w.d;rcases d with d|d|d<;>omega
def Ga{col:ac}{ix d:Nat}{n b:Int}:∀(k r kk:Nat)(st:Int),oa ⟨col,ix,d,r,kk,st⟩ n b->eo col ix d k r<=k*b
|0,r,kk,st,_=>by rw[sg];simp
|k+1,r,kk,st,h=>by
  by_cases hr:r=ix
  .have e:eo col ix d (k+1) r=0:=by
    unfold eo;split
    .rw[ik,aQ hr]
    .rw[wst,aQ hr]
   rw[e];exact tN FP (by have:=h.b1;omega)
  .rw[oy hr];obtain⟨c0,c1,h2⟩:=h.cost hr;have ih:eo col ix d k (bc col (Iw ix r)).toNat<=k*b:=Ga k (bc col (Iw ix r)).toNat _ _ h2;have hc:(if d=0 then(1:Int)else 1+((Iw ix r%d:Nat):Int))=Wk.cost ⟨col,ix,d,r,kk,st⟩:=rfl;rw[hc];have e:((k+1:Nat):Int)*b=(k:Int)*b+b:=by rw[Int.natCast_add,Int.add_mul];simp
   omega
def Dk.W(s:Dk):Int:=s.st+match s.bk with
|none=>0
|some w=>w.st
def Dk.cH(s:Dk):Int:=match s.hd with
|none=>0
|some (n,mo)=>Pol.fL n mo
def Dk.nn(s:Dk):Int:=match s.hd with
|none=>0
|some (n,_)=>n
structure DW(bud:Nat)(s:Dk):Prop where
 bk:s.e=0->∀w,s.bk=some w->oa w s.nn s.cH
 no:s.e≠0->s.bk=none
 hd:∀n mo,s.hd=some (n,mo)->1<=n/\n<=65536/\Pol.pk bud n 2=(mo,0)
 ob:Bytes s.out
def DW.start{bud:Nat}:DW bud nB:=⟨λ_ w h=>G6,λ_=>rfl,λn mo h=>G6,λx h=>G6⟩
def DW.feed{bud:Nat}{s:Dk}(h:DW bud s)(m:ac):DW bud (s.feed m):=⟨h.bk,h.no,h.hd,h.ob⟩
def F0{bud:Nat}{n mo:Int}(b1:1<=bud)(b2:bud<=1048576)(n1:1<=n)(n2:n<=65536)(h:Pol.pk bud n 2=(mo,0)):1<=Pol.fL n mo/\((Pol.dist mo).toNat=0\/(Pol.fL n mo=n\/Pol.fL n mo=(Pol.dist mo).toNat)):=by
 obtain⟨k,rfl⟩:=dB (show 0<=n by omega);obtain⟨mo',mk,e,hk,_⟩:=vq b1 b2 (show 1<=k by omega) FP (by rw[h]);rw[h]at e;cases e;rcases hk with⟨rfl,_⟩|⟨rfl,_⟩|⟨rfl,_⟩
 .refine⟨?_,.inl FU⟩;rw[Pol.fL,show Pol.dd 3=1 from rfl];split<;>omega
 .rw[Pol.fL,show Pol.dd 1=8192 from rfl,show Pol.dist 1=8192 from rfl];split<;>omega
 .rw[Pol.fL,show Pol.dd 2=1024 from rfl,show Pol.dist 2=1024 from rfl];split<;>omega
section
variable{bud:Nat}{en:Bool}{s s2:Dk}{c2:Cf}{ev:ba}{r:dC}
def DW.nb(h:DW bud s)(b1:1<=bud)(b2:bud<=1048576):0<=s.nn/\0<=s.cH/\0<=s.nn*s.cH:=by
 have:0<=s.nn/\0<=s.cH:=by
  unfold Dk.nn Dk.cH;cases hd:s.hd with
 |none=>exact⟨jG _,jG _⟩
 |some o=>
   obtain⟨n,mo⟩:=o;obtain⟨x,y,z⟩:=h.hd n mo hd;have:=(F0 b1 b2 x y z).1;exact⟨by show 0<=n;omega,by show 0<=Pol.fL n mo;omega⟩
 exact⟨this.1,this.2,tN this.1 this.2⟩
def DW.act(b1:1<=bud)(b2:bud<=1048576)(hI:DI s)(h:DW bud s)(he:s.e=0)(hk:s.bk=none)(hN:cJ en s.c ev c2)(ha:ev.act=true):DW bud (s.act bud c2 ev)/\(∀o,s.hd=some o->(s.act bud c2 ev).hd=some o)/\s.W<=(s.act bud c2 ev).W/\(s.act bud c2 ev).W<=s.W+2*(s.nn*s.cH)/\((s.act bud c2 ev).bk=none->(s.act bud c2 ev).e=0->(s.act bud c2 ev).W=s.W):=by
 obtain⟨N,h1,h2,h3,hev⟩:=hI.ev he hN;obtain⟨nn0,nb0,nm0⟩:=h.nb b1 b2
 have plain:∀s2:Dk,s2.bk=none->s2.hd=s.hd->s2.st=s.st->Bytes s2.out->DW bud s2/\(∀o,s.hd=some o->s2.hd=some o)/\s.W<=s2.W/\s2.W<=s.W+2*(s.nn*s.cH)/\(s2.bk=none->s2.e=0->s2.W=s.W):=λs2 e1 e2 e3 e4=>by
  have e:s2.W=s.W:=by rw[Dk.W,Dk.W,e1,e3,hk]
  exact⟨⟨λ_ w hw=>absurd (e1.symm.trans hw) I7,λ_=>e1,λn mo hh=>h.hd n mo (e2▸hh),e4⟩,λo ho=>e2.trans ho,FP,FP,λ_ _=>e⟩
 cases ev with
|head n=>
  have hd0:=DI.pL h3 hev.1;rw[Dk.act];split
  .rename_i h0;have e:Dk.W {s with c:=c2,hd:=some (n,(Pol.pk bud n 2).1)}=s.W:=rfl;exact⟨⟨λ_ w hw=>absurd (hk.symm.trans hw) I7,λ_=>hk,λn' mo' hh=>by cases hh;exact⟨hev.2.2.2.1,hev.2.2.2.2.1,uF rfl h0⟩,h.ob⟩,λo ho=>absurd (hd0.symm.trans ho) I7,FP,FP,λ_ _=>e⟩
  .exact plain _ hk rfl rfl h.ob
|block k a b=>exact plain _ hk rfl rfl (λx hx=>by cases hx)
|bytes t=>exact plain _ hk rfl rfl λx hx=>(dG.1 hx).elim (h.ob x) (hev.2.2.2.2.2.1 x)
|tail q=>rw[Dk.act];split<;>exact plain _ hk rfl rfl h.ob
|bad e=>exact plain _ hk rfl rfl h.ob
|U5 k a b=>
  obtain⟨mo,hd⟩:=DI.j3 h2 h1 Gw;obtain⟨_,_,_,hg,⟨_,z1,z2,_,_,_,y1,y2,x1,x2,_⟩,_⟩:=hev;obtain⟨q1,q2,q3⟩:=h.hd _ _ hd;obtain⟨q4,q5⟩:=F0 b1 b2 q1 q2 q3;have enn:s.nn=N:=by rw[Dk.nn,hd]
  have ebm:s.cH=Pol.fL N mo:=by rw[Dk.cH,hd]
  have ed:s.d=(Pol.dist mo).toNat:=by rw[Dk.d,hd]
  have hw:∀st,oa ⟨s.out,s.p.toNat,s.d,0,0,st⟩ s.nn s.cH:=λst=>⟨by show 1<=s.p.toNat;omega,by show s.p.toNat<=s.out.length;omega,dD _,h.ob,by rw[enn];show(s.out.length:Int)<=N;omega,by rw[ebm];exact q4,by rw[enn,ebm];show s.d=0\/_;rw[ed];exact q5⟩;have hc:=Ga s.out.length 0 0 0 (hw 0);rw[<-gC]at hc;have hc0:=(fm (col:=s.out) (ix:=s.p.toNat) (yz s) s.out.length 0).1;rw[<-gC]at hc0;have hm:(s.out.length:Int)*s.cH<=s.nn*s.cH:=zl (by rw[enn];omega) nb0;have eW:s.W=s.st:=by rw[Dk.W,hk];exact jf _
  show DW bud (s.ends c2)/\(∀o,s.hd=some o->(s.ends c2).hd=some o)/\s.W<=(s.ends c2).W/\(s.ends c2).W<=s.W+2*(s.nn*s.cH)/\((s.ends c2).bk=none->(s.ends c2).e=0->(s.ends c2).W=s.W);rw[Dk.ends];split
  .split
   .refine⟨⟨λ_ w hw'=>by cases hw';exact hw _,λh=>absurd he h,h.hd,h.ob⟩,λo ho=>ho,?_,?_,λh=>by cases h⟩
    .show s.W<=s.st+(bi s.out s.p.toNat s.d+bi s.out s.p.toNat s.d);omega
    .show s.st+(bi s.out s.p.toNat s.d+bi s.out s.p.toNat s.d)<=_;omega
   .refine⟨⟨λh=>absurd h (show¬(250:Int)=0 by decide),λ_=>hk,h.hd,h.ob⟩,λo ho=>ho,?_,?_,λ_ h=>absurd h (show¬(250:Int)=0 by decide)⟩
    .exact rL
    .exact rL
  .refine⟨⟨λh=>absurd h (show¬(170:Int)=0 by decide),λ_=>hk,h.hd,h.ob⟩,λo ho=>ho,?_,?_,λ_ h=>absurd h (show¬(170:Int)=0 by decide)⟩
   .exact rL
   .exact rL
|fin=>cases ha
|need=>cases ha
def Wm(h:∀o,s.hd=some o->s2.hd=some o)(h0:0<=s2.nn*s2.cH):s.nn*s.cH<=s2.nn*s2.cH:=by
 cases hd:s.hd with
|none=>
  have:s.nn=0:=by rw[Dk.nn,hd]
  rw[this,Int.zero_mul];exact h0
|some o=>
  have e1:s2.nn=s.nn:=by rw[Dk.nn,Dk.nn,hd,h o hd]
  have e2:s2.cH=s.cH:=by rw[Dk.cH,Dk.cH,hd,h o hd]
  rw[e1,e2];exact jG _
def DN.dw(b1:1<=bud)(b2:bud<=1048576)(h:DN bud en s r s2)(hI:DI s)(hW:DW bud s):DW bud s2/\(∀o,s.hd=some o->s2.hd=some o)/\s.W<=s2.W/\s2.W<=s.W+(if s.e=0 then(if s.bk=none then 2*(s2.nn*s2.cH)+s2.cH else s2.cH)else 0):=by
 induction h with
|err h=>exact⟨hW,λo h=>h,jG _,by rw[aP h];omega⟩
|byte he hb=>
  rename_i s w;obtain⟨_,c2,_⟩:=hI.bk he w hb;obtain⟨c0,c1,hn⟩:=(hW.bk he w hb).cost c2.step.1
  have eW:(s.tell w).W=s.W+w.cost:=by
   rw[Dk.tell];split
   .simp only[Dk.W,hb,Wk.next];omega
   .simp only[Dk.W,hb,Wk.next];omega
  have ehd:(s.tell w).hd=s.hd:=by rw[Dk.tell];split<;>rfl
  have en':(s.tell w).nn=s.nn:=by rw[Dk.nn,Dk.nn,ehd]
  have eb:(s.tell w).cH=s.cH:=by rw[Dk.cH,Dk.cH,ehd]
  refine⟨⟨λ_ w' hw'=>?_,λh'=>absurd (by rw[Dk.tell];split<;>exact he) h',λn mo h'=>hW.hd n mo (ehd▸h'),by rw[Dk.tell];split<;>exact hW.ob⟩,λo ho=>ehd.trans ho,FP,?_⟩
  .rw[en',eb];revert hw';rw[Dk.tell];split
   .intro hw';cases hw'
   .intro hw';cases hw';exact hn
  .rw[aQ he,aP (by rw[hb];intro h;cases h),eW,eb];omega
|need he hb hN=>
  exact MA
|fin he hb hN=>
  exact MA
|act he hb hN ha hz _ ih=>
  rename_i s s2 c2 ev r _;obtain⟨a1,a2,a3,a4,a5⟩:=hW.act b1 b2 hI he hb hN ha;obtain⟨i1,i2,i3,i4⟩:=ih (hI.act he hb hN ha hz) a1;have hnb:=i1.nb b1 b2;have hle:=Wm (λo ho=>i2 o (a2 o ho)) hnb.2.2;refine⟨i1,λo ho=>i2 o (a2 o ho),FP,?_⟩;rw[aQ he,aQ hb];by_cases e0:(s.act bud c2 ev).e=0
  .rw[aQ e0]at i4;by_cases k0:(s.act bud c2 ev).bk=none
   .rw[aQ k0]at i4;have:=a5 k0 e0;omega
   .rw[aP k0]at i4;omega
  .rw[aP e0]at i4;omega
def DW.bnd(b1:1<=bud)(b2:bud<=1048576)(h:DW bud s){n:Int}(hn:∀n' mo,s.hd=some (n',mo)->n'=n)(he:Pol.er n 2 s.dp=0):2*(s.nn*s.cH)+s.cH+(8300+15*(n+1))<=Pol.bnd n s.dp:=by
 have ho:Pol.dt n 2 s.dp:=by
  by_cases h:Pol.dt n 2 s.dp
  .exact h
  .rw[Pol.tg h]at he;cases he
 cases hd:s.hd with
|none=>
  have:s.dp=0:=by rw[Dk.dp,hd]
  rw[this]at ho;obtain⟨_,_,_,h⟩:=ho;omega
|some o=>
  obtain⟨n',mo⟩:=o;obtain rfl:=hn n' mo hd;have e1:s.nn=n':=by rw[Dk.nn,hd]
  have e2:s.cH=Pol.fL n' mo:=by rw[Dk.cH,hd]
  have e3:s.dp=mo:=by rw[Dk.dp,hd]
  rw[Pol.bnd,aQ ho,e1,e2,e3];have hn1:=(h.hd _ _ hd).1;have e:(2*n'+1)*Pol.fL n' mo=2*(n'*Pol.fL n' mo)+Pol.fL n' mo:=by rw[Int.add_mul,Int.one_mul,Int.mul_assoc]
  omega
end
open Go Tryz Go.RowKit
def Dk.us(F:Nat)(s:Dk):Int:=8*F-(8*s.c.R.length-s.c.j:Nat)
section
variable{bud gd gr gp F:Nat}{en:Bool}{s:Dk}{w0 w:FC}{ss:O1}{R rs:ae}
def Vb(h:cN bud gd gr gp F en rs s R)(hm:Own w0 w R ss):ak 43 #[gd] w (RW w (.int .u8 s.dp)):=by
 obtain⟨D,P,rfl,hP,hD,hI⟩:=h;obtain⟨ga,gx,n,mk,l,md,live,peak,sv,bv,S,X,hl,hb,p0,p1,lv,rfl,hz,hh⟩:=hD;rw[<-hz.1];exact PP s.m s.p s.q s.out.length s.st s.told s.all s.e hm
def UB(h:cN bud gd gr gp F en rs s R)(hm:Own w0 w R ss):ak 44 #[gd] w λx w'=>∃pk:Int,x=.returned (.int .i64 pk)/\pk<=bud/\w'=w:=by
 obtain⟨D,P,rfl,hP,hD,hI⟩:=h;obtain⟨ga,gx,n,mk,l,md,live,peak,sv,bv,S,X,hl,hb,p0,p1,lv,rfl,hz,hh⟩:=hD;simp only[aI,eG]at hm;refine MW (Zr s.m s.p s.q s.out.length (.slice gx l.length l.length) s.st s.told s.all s.e (hm.perm (List.perm_middle.symm.cons _))) ?_;exact⟨peak,rfl,p1,rfl⟩
def FO(h:cN bud gd gr gp F en rs s R)(hno:s.e≠0->s.bk=none)(hm:Own w0 w R ss)(s0:0<=s.st)(s1:s.st<=1000000000000000000)(hF:F<=4000000):ak 41 #[gd] w (RO (.int .i64 (s.W+s.us F)) w0 R ss):=by
 obtain⟨D,P,rfl,hP,hD,hI⟩:=h;obtain⟨k,hs,ms,ts,cs,ds,er,RP,hPe,hk,hz',hp,X,E,v,used,rfl,ht,hB,hl',hj,hu0,hu8,hF1⟩:=hP [];simp only[fF]at hPe;subst hPe;have hus:s.us F=used:=by rw[Dk.us];omega
 have hu1:used<=100000000:=FP
 obtain⟨ga,gx,n,mk,l,md,live,peak,sv,bv,S,Y,hl,hb,p0,p1,lv,rfl,hz,hh⟩:=hD;rw[hus]
 have eR:∀c:ai,((gd,c)::(Y++((ga,AR (.slice gx l.length l.length) live peak)::(gx,B l)::S)))++(((gp,PR (PT (k+1)) hs ms ts cs ds er)::(gr,RD v ((s.c.j%8:Nat):Int) used en)::(X++E))++rs)=(gd,c)::((Y++((ga,AR (.slice gx l.length l.length) live peak)::(gx,B l)::S))++((gp,PR (PT (k+1)) hs ms ts cs ds er)::(gr,RD v ((s.c.j%8:Nat):Int) used en)::(X++(E++rs)))):=λc=>by
  simp only[aI,eG]
 rw[eR]at hm⊢;cases hbk:s.bk with
|none=>
  obtain rfl:=hz.2 hbk;have e:s.W=s.st:=by rw[Dk.W,hbk];exact jf _
  rw[e];refine(Y9 s.m s.p s.q s.out.length s.st s.told s.all s.e (hm.perm ox) s0 s1 hu0 hu1).mono ?_;rintro x w'⟨rfl,hm2⟩;exact⟨rfl,hm2.perm ox.symm⟩
|some wk=>
  have he:s.e=0:=by
   by_cases h:s.e=0
   .exact h
   .exact absurd ((hno h).symm.trans hbk) I7
  obtain⟨_,hBk⟩:=hh he;rw[fw,hbk]at hBk;obtain⟨gw,cs',t,fv,fn,fr,fs,ft,rfl,rfl,hW,_,hkl,_,hst,_,hbd⟩:=hBk;have e:s.W=s.st+wk.st:=by rw[Dk.W,hbk]
  have hro:=(fm (col:=wk.col) (ix:=wk.ix) (d:=wk.d) Gq (wk.col.length-wk.k) wk.r).1;have es:s.W+used=s.st+used+wk.st:=FP
  rw[es];refine(X5 hW.kd wk.st s.m s.p s.q s.out.length s.st s.told s.all s.e (hm.perm (ox.cons _)) (aa λW f R h=>hW.steps W f R h) s0 s1 hu0 hu1 hst FP).mono ?_;rintro x w'⟨rfl,hm2⟩;exact⟨rfl,hm2.perm (ox.cons _).symm⟩
end
end Go.Proofs.YtkpbhdhkdonghaaGreat

set_option linter.all false
namespace Go.Proofs.YtkpbhdhkdonghaaGreat
open Go Go.RowKit
section
variable{c c1 c2:Cf}{b:DS}{M N m most n:Int}{F gd gr:Nat}{R rs:ae}{t:TT}
def Cf.rm(c:Cf):Int:=8*c.R.length-c.j
def fI(t:TT):Int:=if t.b<4 then t.b else 4+31*t.s+2*(if t.d=1 then t.n else if t.d=2 then 15-t.n else 0)+(if t.b=5 then 1 else 0)
def gn:MT->Int
|.mark=>0
|.mm _ M=>8+8*M
|.pp _ _ M=>48+8*M
|.sum _ _ _ k=>88+8*k
|.last _ k=>8+8*k
def nm(t:HT):Int:=(if t.a<3 then 8*t.a else 24+8*t.M)-64
def bm:PS->Int
|.head t=>nm t
|.mark _ t=>gn t
|.table _ _ _ _ t=>120+fI t
|.syms _ m _ _ _ _ k b=>8122+15*max 0 (min (m-b.left+b.dig) m)+k
|.pad _ m _ _=>8122+15*(m+1)
|_=>120
def yi(N:Int):PS->Prop
|.head t=>t.ok
|.mark n t=>n=N/\1<=n/\n<=65536/\t.ok n
|.table n m _ _ t=>n=N/\1<=m/\m<=n/\n<=65536/\t.ok
|.syms n m _ _ L q k b=>n=N/\1<=m/\m<=n/\n<=65536/\b.left<=m/\Uk L q k
|.pad n m _ _=>n=N/\1<=m/\m<=n
|_=>True
def PI(N:Int)(c:Cf):Prop:=Bytes c.R/\yi N c.s
def Zb(N:Int):Int:=8130+15*(N+1)
def VM.bd{V:Int}(h:VM V M most):0<=M/\M<=4:=⟨h.m0,h.m4⟩
def vW{t:HT}(h:t.ok):-64<=nm t/\nm t<=-8:=by
 unfold nm;rcases h with⟨a,b,_,_⟩|⟨a,h⟩
 .rw[aQ FP];omega
 .have:=h.bd;rw[aP FP];omega
def ua{t:MT}(h:t.ok n):0<=gn t/\gn t<=112:=by
 cases t with
|mark=>exact⟨jG _,FU⟩
|mm V M=>have:=VM.bd h;simp only[gn];omega
|pp m V M=>have:=VM.bd h.2.2;simp only[gn];omega
|sum m p s k=>have:=h.2.2.2.2.1;simp only[gn];omega
|last s k=>have:=h.1;simp only[gn];omega
def un(h:t.ok):0<=fI t/\fI t<=8002:=by
 have h1:=h.sym;have h2:=h.bit;have h3:=h.now;unfold fI
 repeat' split
 all_goals omega
def rB(hN:0<=N){s:PS}(h:yi N s):bm s<=Zb N:=by
 unfold Zb;cases s with
|head t=>have:=vW h;simp only[bm];omega
|mark n t=>have:=ua h.2.2.2;simp only[bm];omega
|table n m p s t=>have:=un h.2.2.2.2;simp only[bm];omega
|syms n m p s L q k b=>
  obtain⟨rfl,h1,h2,h3,_,h4⟩:=h;have:=h4.bit;simp only[bm];omega
|pad n m p s=>obtain⟨rfl,h1,h2⟩:=h;simp only[bm];omega
|behind=>simp only[bm];omega
|over=>simp only[bm];omega
|bad e=>simp only[bm];omega
def WO{b:Int}(h:t.ok)(b0:0<=b)(b1:b<=1)(hk:(t.next b).2=true):fI t+1<=fI (t.next b).1/\((t.next b).1.s=258->fI (t.next b).1<=8002):=by
 obtain⟨l,s,c,n,d⟩:=t;have h1:=h.sym;have h2:=h.bit;have h3:=h.now;have h4:=h.way;have h5:=h.first;simp only at h1 h2 h3 h4 h5;simp only[TT.next]at hk⊢;have fin:∀t2:TT,(fI ⟨l,s,c,n,d⟩+1<=fI t2)->(t2.s=258->fI t2<=8002)->fI ⟨l,s,c,n,d⟩+1<=fI t2/\(t2.s=258->fI t2<=8002):=λ_ a b=>⟨a,b⟩;by_cases e4:c<4
 .rw[aQ e4];have e1:=(h5 e4).1;have e2:=(h5 e4).2.1;subst e1 e2;exact rS
 .rw[aP e4]at hk⊢;by_cases e5:c=4
  .rw[aQ e5]at hk⊢;by_cases eb:b=0
   .rw[aQ eb];refine fin _ ?_ (λh=>?_)
    .exact tB
    .simp only at h;exact tB
   .rw[aP eb];exact rS
  .rw[aP e5]at hk⊢;by_cases eb:b=0
   .rw[aQ eb]at hk⊢;have hk:=eF hk;exact rS
   .rw[aP eb]at hk⊢;have hk:=eF hk;exact rS
def Xy(h:fN b=true):b.dig<=b.run:=by
 obtain⟨_,_,h1,_,_,_,h2⟩:=TL h;have h3:=(UG _ _ (aX b.run.toNat)).1;have h4:(dg b.run.toNat).length<2^(dg b.run.toNat).length:=Nat.lt_two_pow_self;omega
def PX{s:Int}(h:(FY b s).2.2.2=0)(h1:(FY b s).2.2.1=false):m-b.left+b.dig+1<=m-(FY b s).1.left+(FY b s).1.dig/\m-b.left+b.dig+1<=m/\(FY b s).1.left<=b.left/\0<=b.dig:=by
 rw[FY]at h h1⊢;by_cases h0:fN b=true/\b.fin=false/\0<=s/\s<=257
 .rw [aQ h0]at h h1⊢;by_cases h2:(G9 b s).2.2=true
  .rw[aQ h2]at h h1⊢;have hr:=Xy h0.1;obtain⟨n0,n1,n2,n3,n4,n5,n6⟩:=TL h0.1;simp only at h1⊢;rw[G9]at h1 h2⊢;by_cases e1:s=0\/s=1
   .rw[aQ e1]at h1 h2⊢;have h2:=eF h2;obtain⟨k,hk⟩:=dB n4;have hp:=KF k FP
    have hp2:(2:Int)^k<=65536:=by
     have:=jD (show 0<2 by omega) (show k<=16 by omega);have e:((2^k:Nat):Int)=(2:Int)^k:=by push_cast;rfl
     rw[<-e];omega
    have ha:Wj b.run b.dig s:=⟨n2,FP,n4,FP,e1⟩;have hs:QF b.run b.dig s=b.run+(1+s)*2^k:=by rw[QF,hk];rfl
    have hs2:b.run+1<=QF b.run b.dig s/\QF b.run b.dig s<=2147483647:=by
     rw[hs];rcases e1 with rfl|rfl
     .rw[show(1+0:Int)=1 from rfl,Int.one_mul];omega
     .rw[show(1+1:Int)=2 from rfl];omega
    rw[OJ,aQ ⟨ha,hs2.2⟩]at h2;exact⟨by simp only;omega,FP,jG _,n4⟩
   .rw[aP e1]at h1 h2⊢;by_cases e2:s=257
    .rw[aQ e2]at h1;simp at h1
    .rw[aP e2]at h1 h2⊢;by_cases e3:b.run=b.left
     .rw[aQ e3]at h2;simp at h2
     .rw[aP e3];exact⟨by simp only;omega,FP,by simp only;omega,n4⟩
  .rw[aP h2]at h;exact absurd (show(160:Int)=0 from h) FU
 .rw[aP h0]at h;exact absurd (show(2:Int)=0 from h) FU
def nX(N:Int)(c c2:Cf):ba->Prop
|.head n=>PI n c2/\c.rm-c2.rm<=bm c2.s-bm c.s/\1<=n
|.block _ _ _=>PI N c2/\c.rm-c2.rm<=bm c2.s-bm c.s
|.bytes _=>PI N c2/\c.rm-c2.rm<=bm c2.s-bm c.s
|.tail _=>PI N c2/\c.rm-c2.rm<=bm c2.s-bm c.s
|_=>Bytes c2.R/\c.rm-c2.rm<=Zb N-bm c.s
def K6(N:Int)(c c2:Cf):Option ba->Prop
|none=>PI N c2/\c.rm-c2.rm<=bm c2.s-bm c.s
|some e=>nX N c c2 e
def PI.step{N:Int}(hN:0<=N){c:Cf}(h:PI N c):K6 N c (AB c).2 (AB c).1:=by
 obtain⟨s,R,j⟩:=c;obtain⟨hB,h⟩:=h;have hbd:=rB hN h;simp only at hB h hbd;cases s with
|head t=>
  have ht:=vW h;cases R with
 |nil=>exact⟨hB,by simp only[AB,bm,Zb,Cf.rm];omega⟩
 |cons x R=>
   have hx:=hB x eP;have hR:Bytes R:=λy hy=>hB y (fB _ hy);have hs:=HT.step_ok h hx.1 FP;have hrm:∀s2,Cf.rm ⟨.head t,x::R,j⟩-Cf.rm ⟨s2,R,0⟩<=8:=λs2=>by simp only[Cf.rm,bD];omega
   simp only[AB]
   have hst:∀t2,t.step x=.go t2->nm t+8<=nm t2:=λt2 e=>by
    obtain⟨a,V,M⟩:=t;simp only[HT.step]at e;simp only[nm]
    repeat' split at e
    all_goals first|(cases e;done)|skip
    .exact xT
    .exact xT
    .exact xT
    .cases e;rename_i h0 h1 h2 ho hd;have:¬(x=128/\M=0):=by have:=eF ho;exact this.1
     rcases h with⟨a0,a1,_,_⟩|⟨a3,_⟩
     .simp only at a0 a1;omega
     .simp only at a3;subst a3;simp only[EM,aP this];simp;omega
   cases hr:t.step x with
  |go t2=>
    rw[hr]at hs;have:=hst t2 hr;have:=hrm (.head t2);exact⟨⟨hR,hs⟩,by simp only[Qs,bm];omega⟩
  |done n=>
    rw[hr]at hs;have:=hrm (.mark n .mark);exact⟨⟨hR,rfl,hs.1,hs.2,trivial⟩,by simp only[Qs,bm,gn];omega,hs.1⟩
  |bad e=>
    have:=hrm (.bad e);exact⟨hR,by simp only[Qs,bm,Zb];omega⟩
|mark n t=>
  obtain⟨rfl,n1,n2,ht⟩:=h;have htb:=ua ht;cases R with
 |nil=>exact⟨hB,by simp only[AB,bm,Zb,Cf.rm];omega⟩
 |cons x R=>
   have hx:=hB x eP;have hR:Bytes R:=λy hy=>hB y (fB _ hy);have hs:=MT.step_ok n1 n2 ht hx.1 FP;have hrm:∀s2,Cf.rm ⟨.mark n t,x::R,j⟩-Cf.rm ⟨s2,R,0⟩<=8:=λs2=>by simp only[Cf.rm,bD];omega
   simp only[AB]
   have hst:∀t2,t.step n x=.go t2->gn t+8<=gn t2:=λt2 e=>by
    cases t with
   |mark=>
     simp only[MT.step]at e
     repeat' split at e
     all_goals cases e
     all_goals simp[gn]
   |mm V M=>
     have:=VM.bd ht;exact NT
   |pp m V M=>
     have:=VM.bd ht.2.2;exact NT
   |sum m p s k=>
     exact Kk
   |last s k=>
     exact Kk
   cases hr:t.step n x with
  |go t2=>
    rw[hr]at hs;have:=hst t2 hr;have:=hrm (.mark n t2);exact⟨⟨hR,rfl,n1,n2,hs⟩,by simp only[MX,bm];omega⟩
  |block m p s=>
    rw[hr]at hs;have:=hrm (.table n m p s bz);exact⟨⟨hR,rfl,hs.1,hs.2.1,n2,XK⟩,by simp only[MX,bm];have:fI bz=0:=rfl;omega⟩
  |tail s=>
    have:=hrm .behind;exact⟨⟨hR,trivial⟩,by simp only[MX,bm];omega⟩
  |bad=>
    have:=hrm (.bad 242);exact⟨hR,by simp only[MX,bm,Zb];omega⟩
|table n m p s t=>
  obtain⟨rfl,m1,m2,n2,ht⟩:=h;have htb:=un ht;simp only[AB];split
  .obtain⟨c0,c1⟩:=KY R j;simp only[Oj];have hrm:∀s2,Cf.rm ⟨.table n m p s t,R,j⟩-Cf.rm ⟨s2,R,j+1⟩<=1:=λs2=>by simp only[Cf.rm];omega
   by_cases h1:(t.next (AP R j)).2=true
   .rw[aQ h1];have hp:=WO ht c0 c1 h1;rcases ht.next c0 c1 h1 with⟨h2,h3⟩|⟨h2,h3,h4,h5⟩
    .rw[aP FP];have:=hrm (.table n m p s (t.next (AP R j)).1);exact⟨⟨hB,rfl,m1,m2,n2,h3⟩,by simp only[bm];omega⟩
    .rw[aQ h2];have:=hrm (.syms n m p s (t.next (AP R j)).1.l 0 0 (dNew m));have e1:(dNew m).left=m:=by rw[dNew,aQ FP]
     refine⟨⟨hB,rfl,m1,m2,n2,by rw[e1];exact jG _,Uk.zero h3 h4 h5⟩,?_⟩;have e2:(dNew m).dig=0:=by rw[dNew,aQ FP]
     have:=hp.2 h2;simp only[bm,e1,e2];omega
   .rw[aP h1];have:=hrm (.bad 100);exact⟨hB,by simp only[bm,Zb];omega⟩
  .exact⟨hB,by simp only[bm,Zb,Cf.rm];omega⟩
|syms n m p s L q k b=>
  obtain⟨rfl,m1,m2,n2,hlf,hpf⟩:=h;have hk:=hpf.bit;simp only[AB];split
  .obtain⟨c0,c1⟩:=KY R j;simp only[eY];have hn:=hpf.next c0 c1;have hrm:∀s2,Cf.rm ⟨.syms n m p s L q k b,R,j⟩-Cf.rm ⟨s2,R,j+1⟩<=1:=λs2=>by simp only[Cf.rm];omega
   by_cases h1:(aR L q k (AP R j)).2.2.2=true
   .rw[aQ h1]
    have hk2:(aR L q k (AP R j)).2.1=0:=by
     rw[aR]at h1⊢;split at h1
     .cases h1
     .rename_i hx;rw[aP hx]
    simp only[MQ];generalize hd:FY b (aR L q k (AP R j)).2.2.1=d;by_cases h2:d.2.2.2=0
    .rw[aQ h2]
     have key:∀s2,s2=(if d.2.2.1=true then PS.pad n m p s else PS.syms n m p s L (aR L q k (AP R j)).1 (aR L q k (AP R j)).2.1 d.1)->PI n ⟨s2,R,j+1⟩/\Cf.rm ⟨.syms n m p s L q k b,R,j⟩-Cf.rm ⟨s2,R,j+1⟩<=bm s2-bm (.syms n m p s L q k b):=λs2 e=>by
      have:=hrm s2;by_cases h3:d.2.2.1=true
      .rw[aQ h3]at e;subst e;exact⟨⟨hB,rfl,m1,m2⟩,by simp only[bm]at*;omega⟩
      .rw[aP h3]at e;subst e;have hq:=PX (b:=b) (s:=(aR L q k (AP R j)).2.2.1) (m:=m) (by rw[hd];exact h2) (by rw[hd];simpa using h3);rw[hd]at hq;refine⟨⟨hB,rfl,m1,m2,n2,FP,hn⟩,?_⟩;simp only[bm,hk2]at*;omega
     have hkey:=key _ rfl;by_cases h4:0<d.2.1.length
     .rw[aQ h4];exact hkey
     .rw[aP h4];exact hkey
    .rw[aP h2];have:=hrm (.bad d.2.2.2);exact⟨hB,by simp only[bm,Zb]at*;omega⟩
   .rw[aP h1]
    have hk2:(aR L q k (AP R j)).2.1=k+1:=by
     rw[aR]at h1⊢;split at h1
     .rename_i hx;rw[aQ hx]
     .exact absurd rfl h1
    have:=hrm (.syms n m p s L (aR L q k (AP R j)).1 (aR L q k (AP R j)).2.1 b);exact⟨⟨hB,rfl,m1,m2,n2,hlf,hn⟩,by simp only[bm,hk2]at*;omega⟩
  .exact xb
|pad n m p s=>
  obtain⟨rfl,m1,m2⟩:=h;have hD:Bytes (R.drop ((j+7)/8)):=λy hy=>hB y (iw hy);have hrm:∀s1 s2,Cf.rm ⟨s1,R,j⟩-Cf.rm ⟨s2,R.drop ((j+7)/8),0⟩<=7:=λs1 s2=>by simp only[Cf.rm,dQ];omega
  simp only[AB];split
  .have:=hrm (.pad n m p s) (.mark n .mark);exact⟨hD,by simp only[bm,Zb]at*;omega⟩
  .have:=hrm (.pad n m p s) (.bad 160);exact⟨hD,by simp only[bm,Zb]at*;omega⟩
|behind=>
  simp only[AB];split
  .exact xb
  .exact xb
|over=>exact⟨hB,by simp only[AB,bm,Zb,Cf.rm]at*;omega⟩
|bad e=>exact⟨hB,by simp only[AB,bm,Zb,Cf.rm]at*;omega⟩
def PI.nu(hN:0<=N){en:Bool}(h:PI N c):K6 N c (br en c).2 (br en c).1:=by
 rw[br];split
 .have:=rB hN h.2;exact⟨h.1,by simp only;omega⟩
 .exact h.step hN
def nX.trans{ev:ba}(h:c.rm-c1.rm<=bm c1.s-bm c.s)(h2:nX N c1 c2 ev):nX N c c2 ev:=by
 cases ev<;>simp only[nX]at h2⊢
 all_goals first
 |exact⟨h2.1,FP,h2.2.2⟩
 |exact⟨h2.1,FP⟩
def cJ.bits(hN:0<=N){en:Bool}{ev:ba}(h:cJ en c ev c2)(hI:PI N c):nX N c c2 ev:=by
 induction h with
|now h=>have:=hI.nu (en:=en) hN;rw[h]at this;exact this
|later h _ ih=>
  have:=hI.nu (en:=en) hN;rw[h]at this;exact(ih this.1).trans this.2
section
variable{bud:Nat}{en:Bool}{s s2:Dk}{r:dC}
def DN.stays{bud:Int}(h:DN bud en s r s2)(hs:s.e≠0\/s.bk≠none):s2.c=s.c/\s2.hd=s.hd:=by
 cases h with
|err h=>exact⟨rfl,rfl⟩
|byte he hb=>exact⟨by rw[Dk.tell];split<;>rfl,by rw[Dk.tell];split<;>rfl⟩
|need he hb hN=>exact absurd hs (by simp[he,hb])
|fin he hb hN=>exact absurd hs (by simp[he,hb])
|act he hb hN ha hz hd=>exact absurd hs (by simp[he,hb])
def DN.bits(b1:1<=bud)(b2:bud<=1048576)(h:DN bud en s r s2)(hI:DI s)(hW:DW bud s)(N:Int)(hN:0<=N)(hn:∀n mo,s2.hd=some (n,mo)->n=N)(h0:s2.hd≠none)(hP:PI N s.c):s.c.rm-s2.c.rm<=Zb N-bm s.c.s:=by
 induction h with
|err h=>have:=rB hN hP.2;omega
|byte he hb=>
  have:=rB hN hP.2;have e:(Dk.tell _ _).c=_:=(DN.stays (DN.byte (bud:=bud) (en:=en) he hb) (.inr (by rw[hb];simp))).1;rw[e];omega
|need he hb hN'=>exact(hN'.bits hN hP).2
|fin he hb hN'=>exact(hN'.bits hN hP).2
|act he hb hN' ha hz hd ih=>
  rename_i s s2 c2 ev r;have hE:=hN'.bits hN hP;have hI2:DI (s.act bud c2 ev):=hI.act he hb hN' ha hz;have hW2:=(hW.act b1 b2 hI he hb hN' ha).1;replace ih:=ih hI2 hW2 hn h0;have per:=(hd.dw b1 b2 hI2 hW2).2.1
  have cc:(s.act bud c2 ev).c=c2:=by
   cases ev<;>simp only[Dk.act]<;>(try rw[Dk.ends])<;>repeat' split
   all_goals rfl
  rw[cc]at ih;cases ev with
 |head n=>
   obtain⟨e1,e2,e3⟩:=hE;by_cases hp:(Pol.pk bud n 2).2=0
   .have:(s.act bud c2 (.head n)).hd=some (n,(Pol.pk bud n 2).1):=by rw[Dk.act,aQ hp]
    obtain rfl:=hn _ _ (per _ this);have:=ih e1;omega
   .have e4:(s.act bud c2 (.head n)).e≠0:=by rw[Dk.act,aP hp];exact hp
    have e5:(s.act bud c2 (.head n)).hd=s.hd:=by rw[Dk.act,aP hp]
    obtain⟨N',h1,h2,h3,hev⟩:=hI.ev he hN';exact absurd ((hd.stays (.inl e4)).2.trans (e5.trans (DI.pL h3 hev.1))) h0
 |block k a b=>have:=ih hE.1;have:=hE.2;omega
 |bytes t=>have:=ih hE.1;have:=hE.2;omega
 |tail q=>have:=ih hE.1;have:=hE.2;omega
 |U5 k a b=>
   have e:(s.act bud c2 (.U5 k a b)).e≠0\/(s.act bud c2 (.U5 k a b)).bk≠none:=by
    simp only[Dk.act];rw[Dk.ends];split
    .split
     .exact .inr G5
     .exact .inl (show(250:Int)≠0 by decide)
    .exact .inl (show(170:Int)≠0 by decide)
   rw[(hd.stays e).1,cc];exact hE.2
 |bad e=>
   have e:(s.act bud c2 (.bad e)).e≠0\/(s.act bud c2 (.bad e)).bk≠none:=.inl (hz _ rfl);rw[(hd.stays e).1,cc];exact hE.2
 |fin=>cases ha
 |need=>cases ha
def cN.pi{gp:Nat}(h:cN bud gd gr gp F en rs s R)(he:s.e=0)(hn:∀n mo,s.hd=some (n,mo)->n=N):PI N s.c:=by
 obtain⟨D,P,_,hP,_,hI⟩:=h;obtain⟨k,hs,ms,ts,cs,ds,er,RP,hPe,hk,hz,hp,_⟩:=hP [];have hh:=hI.hd he
 have hE:∃m p q g,EI s.c N m p q g/\0<=g:=by
  cases hd:s.hd with
 |none=>rw[hd]at hh;exact⟨0,0,0,0,hh.2 N 0 0 0 0,jG _⟩
 |some o=>
   rw[hd]at hh;obtain rfl:=hn o.1 o.2 (by rw[hd]);exact⟨_,_,_,_,hh.2,FP⟩
 obtain⟨m,p,q,g,⟨hB,hj,hE⟩,hg⟩:=hE;refine⟨hB,?_⟩;generalize s.c=c at*;obtain⟨st,R,j⟩:=c;cases st with
|head t=>exact hE
|mark n t=>exact hE
|table n k a b t=>
  obtain⟨⟨h1,h2,h3,h4,h5,h6,h7,h8,_⟩,_⟩:=hE;exact⟨h1,h7,h8,h3,hp.2.2.2.2.2.1⟩
|syms n k a b L q i d=>
  obtain⟨⟨h1,h2,h3,h4,h5,h6,h7,h8,_⟩,h9,_⟩:=hE;exact⟨h1,h7,h8,h3,FP,hp.2.2.2.1⟩
|pad n k a b=>
  obtain⟨⟨h1,h2,h3,h4,h5,h6,h7,h8,_⟩,_⟩:=hE;exact⟨h1,h7,h8⟩
|behind=>trivial
|over=>trivial
|bad e=>trivial
def UH{s:PS}(h:yi N s):-64<=bm s:=by
 cases s with
|head t=>exact(vW h).1
|mark n t=>have:=(ua h.2.2.2).1;simp only[bm];omega
|table n m p s t=>have:=(un h.2.2.2.2).1;simp only[bm];omega
|syms n m p s L q k b=>simp only[bm];omega
|pad n m p s=>have:=h.2.1;simp only[bm];omega
|behind=>decide
|over=>decide
|bad e=>exact(show(-64:Int)<=120 by decide)
def cN.rm{gd gr gp F:Nat}{rs R:ae}(h:cN bud gd gr gp F en rs s R):s.us F=8*F-s.c.rm:=by
 obtain⟨D,P,_,hP,_⟩:=h;obtain⟨k,hs,ms,ts,cs,ds,er,RP,hPe,hk,hz',hp,X,E,v,used,rfl,ht,hB,hl',hj,hu0,hu8,hF1⟩:=hP [];rw[Dk.us,Cf.rm];omega
end
end
def dC.sh(r:dC):∃b z e,r.val=.tuple #[.int .u8 b,.int .u8 z,.int .i64 e]/\((z=1/\r=.byte b)\/(z=2/\r=.need)\/(z=3/\e=0/\r=.fin)\/(z=4/\r=.bad e)):=by
 cases r with
|byte b=>exact⟨_,_,_,rfl,.inl ⟨rfl,rfl⟩⟩
|need=>exact⟨_,_,_,rfl,.inr (.inl ⟨rfl,rfl⟩)⟩
|fin=>exact⟨_,_,_,rfl,.inr (.inr (.inl ⟨rfl,rfl,rfl⟩))⟩
|bad e=>exact⟨_,_,_,rfl,.inr (.inr (.inr ⟨rfl,rfl⟩))⟩
def Q2{w:FC}{v:NY}{l:ac}(hv:cC .u8 w v l)(hs:Src w v (vs .u8 l)):∀(i j:Nat),i<j->j<=l.length->i<l.length->∀W,Below w.heap.size w W->∀ad c,v=.slice ad l.length c->Src W (.slice (ad.map λx=>x.add i) (j-i) (c-i)) (vs .u8 (seg l i j)):=λi j hij hj hi W hb ad c hvv=>by
 subst hvv;have h:=(hv.below hb).sub (i:=i) (j:=j) FP hj;obtain⟨_,_,e,hl,_⟩:=hv;injection e with _ _ e;subst e;rw[D8,aP FP]at h;refine h.ie (.inl λh0=>?_);have:=QJ (i:=i) hj;rw[h0]at this;simp at this;omega
section
variable{bud gd gr gp F:Nat}{en:Bool}{s s2:Dk}{w0 w:FC}{ss:O1}{R R2 X:ae}{l T rem:ac}
def cN.di{rs:ae}(h:cN bud gd gr gp F en rs s R):DI s:=by
 obtain⟨_,_,_,_,_,h⟩:=h;exact h
def cN.apart(h:cN bud gd gr gp F en X s R):∃Q,R=Q++X/\∀Y,cN bud gd gr gp F en Y s (Q++Y):=by
 obtain⟨D,P,rfl,a,b,c⟩:=h;exact⟨D++P,by rw[aI],λY=>⟨D,P,by rw[aI],a,b,c⟩⟩
def cN.us(h:cN bud gd gr gp F en X s R):0<=s.us F/\s.us F<=8*F:=by
 obtain⟨D,P,_,hP,_⟩:=h;obtain⟨k,hs,ms,ts,cs,ds,er,RP,hPe,hk,hz',hp,X,E,v,used,rfl,ht,hB,hl',hj,hu0,hu8,hF1⟩:=hP [];have hus:s.us F=used:=by rw[Dk.us];omega
 omega
def DN.hn{r:dC}{bud:Int}(h:DN bud en s r s2)(hI:DI s)(hT:TI bud l s T rem)(hr:en=true->rem=[]):∀n mo,s2.hd=some (n,mo)->∃R2,b8 ⟨0,0,0⟩ l=.ok (n,R2):=by
 induction h with
|err h=>exact λn mo h=>(hT.hn n mo h).1
|byte he hb=>exact λn mo h=>(hT.hn n mo (by rw[<-h,Dk.tell];split<;>rfl)).1
|need he hb hN=>exact λn mo h=>(hT.hn n mo h).1
|fin he hb hN=>exact λn mo h=>(hT.hn n mo h).1
|act he hb hN ha hz _ ih=>exact ih (hI.act he hb hN ha hz) (hT.act hI he hb hN hr ha hz)
structure kn(bud gd gr gp F:Nat)(en:Bool)(l:ac)(X:ae)(s:Dk)(T rem:ac)(R:ae):Prop where
 st:cN bud gd gr gp F en X s R
 ti:TI bud l s T rem
 dw:DW bud s
 py:j5 F s
 tl:(T.length:Int)=s.told
def kn.next(b1:1<=bud)(b2:bud<=1048576){r:dC}(h:kn bud gd gr gp F en l X s T rem R)(hr:en=true->rem=[])(hN:DN bud en s r s2)(h2:cN bud gd gr gp F en X s2 R2):(∀b,r=.byte b->kn bud gd gr gp F en l X s2 (T++[b]) rem R2/\s2.be+1<=s.be)/\(r=.need->en=false/\kn bud gd gr gp F en l X s2 T rem R2)/\(r=.fin->cU bud l=(T,0))/\(∀e,r=.bad e->cU bud l=(T,e)/\e≠0):=by
 have hc:=hN.cnt h.st.di;have ht:=hN.ti h.st.di h.ti hr;have hd:=(hN.dw b1 b2 h.st.di h.dw).1;refine⟨λb e=>?_,λe=>?_,λe=>?_,λe' e=>?_⟩
 .subst e;obtain⟨t1,t2⟩:=hc.t1 rfl;exact⟨⟨h2,ht,hd,h.py.next hc,by rw[aV,t1,<-h.tl];simp⟩,t2⟩
 .subst e;obtain⟨t1,t2⟩:=hc.t2 rfl;refine⟨?_,h2,ht,hd,h.py.next hc,by rw[t1,<-h.tl]⟩;cases en with
 |false=>rfl
 |true=>exact absurd rfl (hc.need rfl)
 .subst e;exact ht
 .subst e;exact ht
def kn.cost(b1:1<=bud)(b2:bud<=1048576){r:dC}(h:kn bud gd gr gp F en l X s T rem R)(hN:DN bud en s r s2)(h2:cN bud gd gr gp F en X s2 R2)(hr:en=true->rem=[]){n:Int}(hn:∀n' R,b8 ⟨0,0,0⟩ l=.ok (n',R)->n'=n)(he:Pol.er n 2 s2.dp=0):(s2.W+s2.us F)-(s.W+s.us F)<=Pol.bnd n s2.dp:=by
 obtain⟨hd,_,_,hc⟩:=hN.dw b1 b2 h.st.di h.dw;have hb:=hd.bnd b1 b2 (n:=n) (λn' mo e=>by obtain⟨R,h⟩:=hN.hn h.st.di h.ti hr n' mo e;exact hn n' R h) he;have hnb:=hd.nb b1 b2
 have hu:s2.us F-s.us F<=8300+15*(n+1):=by
  have ho:Pol.dt n 2 s2.dp:=by
   by_cases h:Pol.dt n 2 s2.dp
   .exact h
   .rw[Pol.tg h]at he;cases he
  rw[h.st.rm,h2.rm];have hn0:1<=n:=ho.1;by_cases h0:s.e=0
  .have hh:∀n' mo,s2.hd=some (n',mo)->n'=n:=λn' mo e=>by obtain⟨R,h⟩:=hN.hn h.st.di h.ti hr n' mo e;exact hn n' R h
   have hper:=(hN.dw b1 b2 h.st.di h.dw).2.1;have hP:=h.st.pi h0 (λn' mo e=>hh n' mo (hper _ e))
   have hne:s2.hd≠none:=λe=>by
    have:s2.dp=0:=by rw[Dk.dp,e]
    rw[this]at ho;obtain⟨_,_,_,h⟩:=ho;omega
   have:=hN.bits b1 b2 h.st.di h.dw n FP hh hne hP;have:=UH hP.2;unfold Zb at*;omega
  .rw[(hN.stays (.inl h0)).1];omega
 have:s2.W<=s.W+(2*(s2.nn*s2.cH)+s2.cH):=by
  split at hc
  .split at hc<;>omega
  .omega
 omega
end
open Go Tryz Go.RowKit
section
variable{tmps:ai}{l:ac}{F bud i:Nat}{P:O8}{w w0:FC}
def DW.wf{bud:Nat}{s:Dk}(b1:1<=bud)(b2:bud<=1048576)(h:DW bud s):(Lit.int .u8 s.dp).wf=true:=by
 cases hd:s.hd with
|none=>
  have:s.dp=0:=by rw[Dk.dp,hd]
  rw[this];decide
|some o=>
  obtain⟨n,mo⟩:=o;obtain⟨x,y,z⟩:=h.hd n mo hd;obtain⟨k,rfl⟩:=dB (show 0<=n by omega);obtain⟨mo',mk,e,_,_,_,_,hw⟩:=vq b1 b2 (show 1<=k by omega) FP (by rw[z]);rw[z]at e;cases e;have:s.dp=mo:=by rw[Dk.dp,hd]
  rw[this];exact hw
def DW.Da{s:Dk}(hI:DI s)(h:DW bud s)(hP:j5 F s)(hF:F<=4000000):0<=s.W/\s.W<=200000000000000000:=by
 have h0:=hP.s0;have h1:=hP.s1;unfold Dk.W;cases hb:s.bk with
|none=>simp only;omega
|some w=>
  have he:s.e=0:=by
   by_cases h':s.e=0
   .exact h'
   .exact absurd ((h.no h').symm.trans hb) I7
  obtain⟨_,hw,_⟩:=hI.bk he w hb;have a:=hw.s0;have b:=hw.s1;have c:=(fm (col:=w.col) (ix:=w.ix) hw.d (w.col.length-w.k) w.r).1;simp only;omega
def X7{fn:Func}{t u v x:Tmp}(h:fn.results=#[.tmp t,.tmp u,.tmp v,.tmp x]):
  (results fn tmps).run P w=.ok (.tuple #[tmps.getD t undef,tmps.getD u undef,tmps.getD v undef,tmps.getD x undef]) w:=by
 simp[results,h]
def An:Value->Nat
|.slice _ n _=>n
|_=>0
def A8e{j:Nat}(h:i<=j)(hj:j<=l.length):l.drop i=seg l i j++l.drop j:=by
 have e:(l.take j++l.drop j).drop i=(l.take j).drop i++l.drop j:=uD H9;rwa[kC]at e
def Wr(n s m:Int):Pol.er n s m=0\/Pol.er n s m=2:=by
 by_cases h:Pol.dt n s m
 .exact .inl (Pol.kj h)
 .exact .inr (Pol.tg h)
def AK{v:NY}(bud cut:Nat)(n:Int)(hm:Own w0 w [] [])(hb:Bytes l)(hv:cC .u8 w0 v l)(hs:Src w0 v (vs .u8 l))(hl:l.length<=4000000)(r1:1<=bud)(r2:bud<=400000)(c1:1<=cut)(c2:cut<=1000)(hn:∀n' R,b8 ⟨0,0,0⟩ l=.ok (n',R)->n'=n):ak 12 #[v,.int .i64 bud,.int .i64 cut,.int .i64 n] w λx w'=>∃X vx,x=.returned (.tuple #[vx,.int .u8 (if(cU bud l).2=0 then 3 else 4),.int .i64 (cU bud l).2,.bool true])/\Lies 1 X vx (cU bud l).1.length (vs .u8 (cU bud l).1)/\Own w0 w' X []:=by
 have HSUB:=aa (Q2 hv hs);obtain⟨ad,cp,rfl,hlc,_⟩:=hv;have HB:=aa hb;have HNN:=aa hn;clear hb hs hn;obtain⟨i34,hE34⟩:=wO;have HE34:=aa hE34;obtain⟨i22,hE22⟩:=i8;have HE22:=aa hE22;obtain⟨i23,hEM⟩:=nP;have HEM:=aa hEM;clear hE34 hE22 hEM;go_enter func12,ntmps12
 go_wp2_with(go_at_call 17;have _t:=hm;refine(A5U bud FP FP hm).mono ?_;clear _t hm;rintro e w1⟨gd,gr,gp,R0,rfl,hS0,hm⟩;have HS0:=aa hS0;clear hS0)
 go_loopw[14,15] (λu14 u15 wr=>∃(s:Dk)(T:ac)(X R:ae)(F k:Nat),u15=.int .i64 k/\k<=4001000/\F=min k l.length/\kn bud gd gr gp F false l X s T (l.drop F) R/\Lies 1 X u14 T.length (vs .u8 T)/\Own w0 wr R []) (λ_ u15 _=>(4001001-intOf u15).toNat)
 case atStart=>exact⟨nB,[],[],R0,0,0,by go_num,FP,FP,⟨HS0.o,TI.start,DW.start,j5.start,rfl⟩,Lies.nil 1,hm⟩
 case round=>
  clear hm HS0;obtain⟨s,T,X,R,F,k,rfl,hk1,hF,hT,hX,hm⟩:=hrel;obtain⟨ad3,c3,rfl⟩:=hX.shape;have HX:=aa hX;have HT:=aa hT;clear hX hT;rcases bF k l.length with hlt|hlt
  focus
   obtain⟨h,hh⟩:∃h,h=min (k+cut) l.length:=⟨_,rfl⟩;have hFk:k=F:=FP
   subst hFk;have hlen:(seg l k h).length=h-k:=QJ FP;have HFB:Hid (k+(seg l k h).length<=4000000):=aa FP;have HFh:Hid (k+(seg l k h).length=h):=aa FP;have HMB:Hid (Bytes (seg l k h)):=λx hx=>HB.o x (jB (iw hx));have HSRC:Hid (∀W rr,Own w0 W rr []->Src W (.slice (ad.map λx=>x.add k) (h-k) (cp-k)) (vs .u8 (seg l k h))):=λW rr hw=>HSUB.o k h FP FP FP W hw.below _ _ rfl;have hhl:h<=l.length:=FP
   have hFh:k<=h:=FP
   have hmin:(if((l.length:Int))<((k:Int)+cut)then((l.length:Int))else((k:Int)+cut))=(h:Int):=by split<;>omega
   have HHH:Hid (h=min (k+cut) l.length):=aa hh;clear hh hF
   go_wp2_with(first
   |refine Ad rfl (JQ hm rfl HE34.o (Ac rfl) rfl ?_);clear hm;intro w3 gq hm
   |(go_at_call 18;have _t:=hm;refine(A6q (m:=seg l k h) HT.o.st HFB.o HMB.o HSRC.o hm).mono ?_;clear _t hm;rintro e w1⟨rfl,R2,hS2,hm⟩;have HS2:=aa hS2;clear hS2))
   have HQ:∃(en:Bool)(rem:ac)(s':Dk)(F:Nat)(R:ae),(en=true->rem=[])/\F<=4000000/\decide ((l.length:Int)<=k)=en/\kn bud gd gr gp F en l X s' T rem R/\(en=false->F=min (k+cut) l.length/\rem=l.drop F)/\Own w0 w1 R []:=
    ⟨false,l.drop h,s.feed (seg l k h),h,R2,λh=>G6,FP,aU FP,⟨by have:=HS2.o;rw[HFh.o]at this;exact this,TI.feed (by rw[<-A8e hFh hhl];exact HT.o.ti),HT.o.dw.feed _,by have:=HT.o.py.feed (seg l k h);rw[HFh.o]at this;exact this,HT.o.tl⟩,λ_=>⟨HHH.o,rfl⟩,hm⟩
   clear hm HS2 HT HFB HFh HMB HSRC HHH hmin hFh hhl hlen
  rotate_left
  focus
   have hFl:F=l.length:=FP
   subst hFl;clear hF
   go_wp2_with(go_at_call 21;have _t:=hm;refine(XS HT.o.st hm).mono ?_;clear _t hm;rintro e w1⟨rfl,R2,hS2,hm⟩;have HS2:=aa hS2;clear hS2)
   have HQ:∃(en:Bool)(rem:ac)(s':Dk)(F:Nat)(R:ae),(en=true->rem=[])/\F<=4000000/\decide ((l.length:Int)<=k)=en/\kn bud gd gr gp F en l X s' T rem R/\(en=false->F=min (k+cut) l.length/\rem=l.drop F)/\Own w0 w1 R []:=
    ⟨true,[],s,l.length,R2,λ_=>rfl,hl,aW FP,⟨HS2.o,by have:=HT.o.ti;rwa[qC]at this,HT.o.dw,HT.o.py,HT.o.tl⟩,λh=>G6,hm⟩
   clear hm HS2 HT
  all_goals
   obtain⟨en,rem,s1,F,R1,hr,hF6,hg,hT,hFk,hm⟩:=HQ;have HT:=aa hT;have HR:=aa hr;have HFK:=aa hFk;clear hT hr hFk
   go_loopw[14] (λu14 wr=>∃(s:Dk)(T:ac)(X R:ae),kn bud gd gr gp F en l X s T rem R/\Lies 1 X u14 T.length (vs .u8 T)/\Own w0 wr R []) (λu14 _=>65536*F+1-An u14)
   case atStart=>exact⟨s1,T,X,R1,HT.o,HX.o,hm⟩
   case round=>
    clear hm HT HX;obtain⟨s,T,X,R,hT,hX,hm⟩:=hrel;obtain⟨ad3,c3,rfl⟩:=hX.shape;have HX:=aa hX;have HT:=aa hT;have hW1:=hT.dw.Da hT.st.di hT.py FP;have hU1:=hT.st.us;clear hX hT
    go_upto_region 13 with(first
    |go_at_call 41;refine MP (FO HT.o.st HT.o.dw.no hm HT.o.py.s0 (by have:=HT.o.py.s1;omega) FP) ?_;clear hm;intro w1 hm
    |(go_at_call 19;have _t:=hm;refine(Ws FP FP HT.o.st hm HT.o.py.t0 (by have:=HT.o.py.t1;omega) HT.o.py.s0 (by have:=HT.o.py.s1;omega)).mono ?_;clear _t hm;rintro e w1⟨r,sz,R2,rfl,hN,hS2,hm⟩;have HNX:=aa (HT.o.next FP FP HR.o hN hS2);have HW2:=aa (hN.dw FP FP HT.o.st.di HT.o.dw).1;have HP2:=aa (HT.o.py.next (hN.cnt HT.o.st.di));have HN:=aa hN;have HS2:=aa hS2;clear hN hS2;obtain⟨b,z,e,hr,hz⟩:=r.sh;rw[hr];clear hr;have HZ:=aa hz;clear hz)
    |go_at_call 43;refine MW (Vb HS2.o hm) ?_
    |go_at_call 42;refine cB (Pol.So n (HW2.o.wf FP FP)) hm ?_;clear hm;intro w1 hm)
    have hC:=λhe=>HT.o.cost FP FP HN.o HS2.o HR.o HNN.o (n:=n) he;have hW2:=HW2.o.Da HS2.o.di HP2.o FP;have hU2:=HS2.o.us;have hx:0<=s.W+s.us F/\s.W+s.us F<=300000000000000000:=FP
    clear hW1 hU1 HN;generalize s.W+s.us F=x1 at hC hx⊢;have w7:IntKind.i64.wrap (sz.W+sz.us F-x1)=sz.W+sz.us F-x1:=av;have HC:=aa hC;clear hC;have her:=Wr n 2 sz.dp;have q7:Pol.er n 2 sz.dp=0->decide (Pol.bnd n sz.dp<sz.W+sz.us F-x1)=false:=λh=>aU (by have:=HC.o h;omega);clear hx hW2 hU2;rcases her with her|her
    all_goals
     rw[her]
     try replace q7:=q7 her
     clear her
     go_upto_region 15 with(first
     |(go_at_call 44;refine(UB HS2.o hm).mono ?_;rintro e w1⟨pk,rfl,hpk,rfl⟩;have qpk:decide ((bud:Int)<pk)=false:=an)
     |go_at_call 41;refine MP (FO HS2.o HW2.o.no hm HP2.o.s0 (by have:=HP2.o.s1;omega) FP) ?_;clear hm;intro w1 hm)
     rcases HZ.o with⟨rfl,hz⟩|⟨rfl,hz⟩|⟨rfl,rfl,hz⟩|⟨rfl,hz⟩
     .obtain⟨hB1,hB2⟩:=HNX.o.1 b hz;have htl:=HT.o.tl;have hpy:=HT.o.py.t1;obtain⟨Q,rfl,hQ⟩:=hB1.st.apart;have HB1:=aa hB1;have HQ:=aa hQ;replace hm:=hm.perm gK;clear HNX HS2 hB1 hQ HZ hz HC
      go_wp2_with(first
      |refine Ad rfl (JQ hm rfl HE22.o (Ac rfl) rfl ?_);clear hm;intro w gb hm
      |(refine Ad rfl (GR (A:=[_]) (X:=X) hm rfl HEM.o (Ac rfl) HX.o (Ac rfl) (λW h=>From.one (h.row 0 rfl)) (tJ rfl) FP FP FP ?_);clear hm;intro X2 v2 w hX2 hm;simp only[s2]at hm;replace hm:=hm.dropRow;obtain⟨ad2,c2,rfl⟩:=hX2.shape;have HX2:=aa hX2;clear hX2))
      go_roundw
      case rel=>exact⟨sz,T++[b],X2,Q++X2,⟨HQ.o X2,HB1.o.ti,HB1.o.dw,HB1.o.py,HB1.o.tl⟩,by rw[aV,P7];exact HX2.o,hm.perm gK⟩
      case measure=>
       simp only[An];omega
     .obtain⟨rfl,hB1⟩:=HNX.o.2.1 hz;have hkl:¬(l.length:Int)<=k:=by simpa using hg
      have e2:IntKind.i64.wrap ((k:Int)+cut)=((k+cut:Nat):Int):=by rw[aZ _ FP];push_cast;rfl
      obtain⟨hf1,hf2⟩:=HFK.o rfl;have HB1:=aa hB1;clear HNX HS2 hB1 HZ hz HC;go_wp2;go_roundw
      case rel=>exact⟨sz,T,X,R2,F,k+cut,by go_num,FP,hf1,by rw[<-hf2];exact HB1.o,HX.o,hm⟩
      case measure=>simp[intOf];omega
     .have hTg:=HNX.o.2.2.1 hz;exact LF
     .obtain⟨hTg,hne⟩:=HNX.o.2.2.2 e hz;exact LF
end
section
variable{n:Int}{R T l:ac}{news:ar}{bud k:Nat}{u:NY}{w w0:FC}
def Vx:G0 l=Ij l:=by
 rw[G0,Ij,yQ];cases b8 ⟨0,0,0⟩ l with
|error e=>rfl
|ok o=>exact BV _ _ _ _ _ FP
def From.ie{v:NY}(h:From 1 w v k news):Src w v news:=by
 obtain⟨hl,h⟩:=h;rcases h with⟨rfl,_,rfl⟩|⟨ad,c,rfl,hc⟩
 .exact .inl ⟨rfl,rfl⟩
 .exact .inr ⟨ad,c,by rw[hl,kQ],hc⟩
def A7L{v:NY}(hu:Src w u (vs .u8 T))(hv:Src w v (vs .u8 T)):ak 49 #[u,v] w (RW w (.bool true)):=by
 have HU:=aa hu;have HV:=aa hv;clear hu hv;go_enter func49,ntmps49
 go_wp2_with(first
 |refine A8 rfl (m5 (v:=u) (l:=T) rfl underlying22 underlying5 underlying9 rfl HU.o) ?_
 |refine A8 rfl (m5 (v:=v) (l:=T) rfl underlying22 underlying5 underlying9 rfl HV.o) ?_
 |refine A8 rfl (uv rfl rfl rfl (b:=true) G5) ?_)
 exact eA
def TJ{v:NY}(rs:ae)(hm:Own w0 w rs [])(hv:∀W,Own w0 W rs []->cC .u8 W v l)(hb:Bytes l)(hn:l.length<=1000)(hu:∀W X,Own w0 W (X++rs) []->Src W u (vs .u8 (Ij l).1)):ak 14 #[v,u] w λx w'=>x=.returned (.bool (decide ((Ij l).2.2=0)))/\∃rs',Own w0 w' (rs'++rs) []:=by
 have CR:=aa (sH [] hm hv hb hn);have HU:=aa hu;clear hm hv hb hn hu;generalize Ij l=o at*;obtain⟨T,b,e⟩:=o;by_cases he:e=0
 .subst he;go_enter func14,ntmps14
  go_wp2_with(first
  |(go_at_call 13;refine CR.o.mono ?_;rintro e1 w1⟨X,vx,rfl,hX,hm⟩;have HX:=aa hX;clear hX)
  |go_at_call 49;refine MW (A7L (HU.o _ _ hm) (HX.o.from (A:=[]) hm).ie) ?_)
  go_ret;exact⟨rfl,X,hm⟩
 .have q1:(e==0)=false:=by simpa using he
  rw[show decide (e=0)=false by simpa using he];go_enter func14,ntmps14
  go_wp2_with(first
  |(go_at_call 13;refine CR.o.mono ?_;rintro e1 w1⟨X,vx,rfl,hX,hm⟩;have HX:=aa hX;clear hX))
  go_ret;exact⟨rfl,X,hm⟩
def Rb(h:b8 ⟨0,0,0⟩ l=.ok (n,R))(hp:(Pol.pk bud n 2).2=0):cU bud l=((Ij l).1,(Ij l).2.2):=by
 unfold cU;rw[h];simp only[hp,fP,Vx]
end
def Ad4{P:O8}{o:Oz}{a:OA}{w:FC}{t t':O4}{x y:O7}(ho:o.op=.binOp .neq t x y t'){p:ByteArray}(hx:a.eval x=.string p)(hy:a.eval y=.string p):
  (execOp a.eval o).run P w=.ok (.value (.bool false)) w:=by
 unfold execOp;simp only[ho,hx,hy,eqGuard_at_string,aL,bw,aS];simp[binOp,Op.stringOp,Result.andThen]
section
variable{w:FC}{ps:List ac}{v:NY}
def M1(HL:∀w,ak 9 #[] w (RB w (.bool true)))(hv:lf w v ps)(hps:ps.length<=9223372036854775807)(hpl:∀p∈ps,p.length<=9223372036854775807){n one two at' by' cut:Int}(h:fT ps n one cut=false\/fT ps n one cut=true/\fT ps n two cut=false):ak 4 #[.int .i64 n,.int .i64 one,.int .i64 two,v,.int .i64 at',.int .u8 by',.int .i64 cut] w (RB w (.bool true)):=by
 have CS:Hid (∀W R(b sz:Int),(sz=7\/sz=3)->Own w W R []->ak 15 #[.int .i64 n,.int .i64 b,.int .i64 b,v,.int .i64 sz,.int .i64 cut] W (RO (.bool (fT ps n b cut)) w R [])):=λW R b sz hs hm=>MD hv hps hpl FP FP hm;have HLV:=aa HL;clear HL hv hps hpl;rcases h with q1|⟨q1,q2⟩
 .exact C3
 .exact C3
def a1l(HL:∀w,ak 9 #[] w (RB w (.bool true)))(hv:lf w v ps)(hps:ps.length<=9223372036854775807)(hpl:∀p∈ps,p.length<=9223372036854775807){n one two cut:Nat}{at' by':Int}(y0:0<=by')(y1:by'<256)(h1:fT ps n one cut=true)(h2:fT ps n two cut=true)(o1:1<=one)(t1:1<=two):ak 4 #[.int .i64 n,.int .i64 one,.int .i64 two,v,.int .i64 at',.int .u8 by',.int .i64 cut] w (RB w (.bool true)):=by
 have CS:Hid (∀W R(b sz:Int),(sz=7\/sz=3)->Own w W R []->ak 15 #[.int .i64 n,.int .i64 b,.int .i64 b,v,.int .i64 sz,.int .i64 cut] W (RO (.bool (fT ps n b cut)) w R [])):=λW R b sz hs hm=>MD hv hps hpl FP FP hm;have HLV:=aa HL;obtain⟨_,f2,f3,f4,f5,f6,f7,p11,p12⟩:=eF h1;obtain⟨_,_,_,_,f8,_,_,p21,p22⟩:=eF h2;have hps2:ps.length<=1000:=FP
 have CM:Hid (∀W R(b sz:Nat),(b=one/\sz=7\/b=two/\sz=3)->Own w W R []->ak 16 #[.int .i64 n,.int .i64 b,v,.int .i64 sz] W λe w'=>∃X v2,e=.returned (.tuple #[v2,.bool true])/\Lies 1 X v2 (em n ps).length (vs .u8 (em n ps))/\Own w w' (X++R) []):=λW R b sz hs hm=>by
  rcases hs with⟨rfl,rfl⟩|⟨rfl,rfl⟩
  .exact xj o1 FP FP FP p11 hps2 f2 hv 7 FP FP hm
  .exact xj t1 FP FP FP p21 hps2 f2 hv 3 FP FP hm
 obtain⟨m1,m2,m3⟩:=El (n:=n) FP f2;obtain⟨i,hi⟩:∃i:Nat,i=min (max at' 6).toNat ((em n ps).length-1):=⟨_,rfl⟩;have hi6:6<=i:=FP
 have hil:i<(em n ps).length:=FP
 obtain⟨R0,hR0⟩:=Xr (n:=n) FP FP ps hi6 by';obtain⟨l,hl⟩:∃l,l=(em n ps).set i by':=⟨_,rfl⟩;rw[<-hl]at hR0;have hlb:Bytes l:=by rw[hl];exact zw m1 y0 y1 i
 have hll:l.length=(em n ps).length:=by rw[hl,cO]
 obtain⟨T,hT⟩:∃T,T=cU one l:=⟨_,rfl⟩
 have hT2:T=cU two l:=by
  rw[hT];unfold cU;rw[hR0];simp only[p12,p22,fP]
 have CT:Hid (∀W(b k:Nat)u,(b=one/\k=cut\/b=two/\k=1000)->cC .u8 W u l->Src W u (vs .u8 l)->ak 12 #[u,.int .i64 b,.int .i64 k,.int .i64 n] W λe w'=>∃vx,e=.returned (.tuple #[vx,.int .u8 (if T.2=0 then 3 else 4),.int .i64 T.2,.bool true])/\Src w' vx (vs .u8 T.1)/\Below W.heap.size W w'):=λW b k u hs hu1 hu2=>by
  have hn:∀n' R,b8 ⟨0,0,0⟩ l=.ok (n',R)->n'=n:=λn' R h=>by rw[hR0]at h;cases h;rfl
  have key:∀(b k:Nat),1<=b->b<=400000->1<=k->k<=1000->T=cU b l->ak 12 #[u,.int .i64 b,.int .i64 k,.int .i64 n] W λe w'=>∃vx,e=.returned (.tuple #[vx,.int .u8 (if T.2=0 then 3 else 4),.int .i64 T.2,.bool true])/\Src w' vx (vs .u8 T.1)/\Below W.heap.size W w':=λb k b1 b2 k1 k2 hTb=>by
   rw[hTb];refine(AK b k n (Own.nil W) hlb hu1 hu2 FP b1 b2 k1 k2 hn).mono ?_;rintro e w'⟨X,vx,rfl,hX,h2⟩;exact⟨vx,rfl,(hX.from (A:=[]) (rs:=[]) (by rw[fF];exact h2)).ie,h2.below⟩
  rcases hs with⟨rfl,rfl⟩|⟨rfl,rfl⟩
  .exact key b k o1 FP FP FP hT
  .exact key b 1000 t1 FP FP FP hT2
 obtain⟨M,hM⟩:∃M,M=em n ps:=⟨_,rfl⟩;rw[<-hM]at CM m2 m3 hi hil hl hll;obtain⟨L,hL⟩:∃L,L=M.length:=⟨_,rfl⟩;rw[<-hL]at CM m2 m3 hi hil hll;have HLM:=aa hL;have HLl:=aa hl;have HLL:=aa hll;have HI:=aa hi;clear hT hT2;have q5:decide ((L:Int)<5)=false:=an;obtain⟨st,hst⟩:∃st:Int,st=(if T.2=0 then 3 else 4):=⟨_,rfl⟩;rw[<-hst]at CT;obtain⟨Tx,Te⟩:=T;have q9:(st==st)=true:=Ef st;have q10:(Te==Te)=true:=Ef Te;clear hst;clear HL hv hps hpl f2 f3 f4 f5 f6 f7 f8 p11 p12 p21 p22 hps2 m1 hR0 hlb hll hM hl hL hi hi6;go_enter func4,ntmps4;have hm:=Own.nil w
 go_upto_region 4 with(first
 |go_at_call 15;refine MP (CS.o _ _ _ _ (by first|exact .inl rfl|exact .inr rfl) hm) ?_;clear hm;intro w1 hm
 |(go_at_call 16;refine(CM.o _ _ _ 7 (.inl ⟨rfl,rfl⟩) hm).mono ?_;clear hm;rintro e w1⟨X1,v1,rfl,hX1,hm⟩;obtain⟨a1,c1,rfl⟩:=hX1.shape;have HX1:=aa hX1;clear hX1))
 go_upto_region 7 with(first
 |(go_at_call 16;refine(CM.o _ _ _ 3 (.inr ⟨rfl,rfl⟩) hm).mono ?_;clear hm;rintro e w1⟨X2,v2,rfl,hX2,hm⟩;obtain⟨a2,c2,rfl⟩:=hX2.shape;have HX2:=aa hX2;clear hX2)
 |refine A8 rfl (m5 (v:=.slice a1 L c1) (l:=M) rfl underlying22 underlying5 underlying9 rfl (HX1.o.from (A:=X2) (rs:=[]) hm).ie) ?_
 |refine A8 rfl (m5 (v:=.slice a2 L c2) (l:=M) rfl underlying22 underlying5 underlying9 rfl (HX2.o.from (A:=[]) hm).ie) ?_
 |refine A8 rfl (Ad4 rfl rfl rfl) ?_)
 obtain⟨g1,p1,c1,cells,rfl,e1,_,hsz,_,_⟩:=HX1.o.pos FP;obtain⟨rfl,-,-⟩:a1=some ⟨g1,p1,none⟩/\L=L/\True:=by injection e1 with a b c;exact⟨a,rfl,trivial⟩
 cases e1;obtain⟨hsz2,hX3⟩:=HX1.o.put (j:=i) (by rw[Ai,<-HLM.o];exact hil) (.int .u8 by');rw[aK,<-HLl.o]at hX3;have HX3:=aa hX3;have hm:=hm.perm (rt:=(g1,cells)::X2) (by rw[fF];exact gK (l₁:=[(g1,cells)]) (l₂:=X2));obtain⟨z,hz,hz2⟩:∃z:Int,(if at'<6 then(6:Int)else at')=z/\z=max at' 6:=⟨_,rfl,by split<;>omega⟩
 have hidx:(if(L:Int)-1<z then(L:Int)-1 else z)=(i:Int):=by
  have:=HI.o;split<;>omega
 clear hz2;obtain⟨iM,hEM⟩:=nP;have HEM:=aa hEM;clear hX3 hEM HX1 HI
 go_upto_region 10 with(first
 |refine A8 rfl (db (k:=i) rfl HEM.o (Ac rfl) (Ac rfl) rfl hil) ?_
 |refine Ad rfl (AZ 0 hm rfl rfl (Ac rfl) rfl (ot rfl) hsz2 rfl rfl rfl ?_);clear hm;intro w hm;try simp only[puts,s2,List.set,List.eraseIdx,s3]at hm
 |(go_at_call 12;refine(CT.o _ one cut _ (.inl ⟨rfl,rfl⟩) (Lies.mw (A:=[]) (X:=[_]) (rs:=X2) (by rw[HLL.o];exact HX3.o) hm) ((HX3.o.from (A:=[]) (X:=[_]) (rs:=X2) hm).ie)).mono ?_;rintro e w2⟨vx,rfl,hsx,hb⟩;replace hm:=hm.call hb;have HSX:=aa hsx;clear hb hsx))
 go_wp2_with(first
 |(go_at_call 12;refine(CT.o _ two 1000 _ (.inr ⟨rfl,rfl⟩) (Lies.mw (A:=[]) (X:=[_]) (rs:=X2) (by rw[HLL.o];exact HX3.o) hm) ((HX3.o.from (A:=[]) (X:=[_]) (rs:=X2) hm).ie)).mono ?_;rintro e w3⟨vy,rfl,hsy,hb⟩;replace hm:=hm.call hb;have HSX:=aa (HSX.o.below hb);have HSY:=aa hsy;clear hb hsy)
 |refine A8 rfl (m5 (v:=vx) (l:=Tx) rfl underlying22 underlying5 underlying9 rfl HSX.o) ?_
 |refine A8 rfl (m5 (v:=vy) (l:=Tx) rfl underlying22 underlying5 underlying9 rfl HSY.o) ?_
 |refine A8 rfl (uv rfl rfl rfl (b:=true) G5) ?_
 |go_at_call 9;refine cB (HLV.o _) hm ?_;clear hm;intro w1 hm)
 go_ret;exact cL
end
end Go.Proofs.YtkpbhdhkdonghaaGreat
