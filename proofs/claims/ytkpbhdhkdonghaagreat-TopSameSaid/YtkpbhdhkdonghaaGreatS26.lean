/- Part 26 of the proof. -/
import Derived.Lib.EndianBits
import Derived.Test.YtkpbhdhkdonghaaGreatS21
set_option linter.all false
set_option maxHeartbeats 4000000
set_option maxRecDepth 100000
namespace Go.Proofs.YtkpbhdhkdonghaaGreat
open Go Tryz Go.RowKit
section
variable{A:Addr}{live peak:Int}{l:ac}{a c ga gd n:Nat}{o:Oz}{x y:O7}{t':O4}{w w0:FC}
def w32(l:ac)(p:Nat):Nat->Int
|0=>0
|k+1=>w32 l p k+gi l (p+k)*2^(8*k)
def V7{l:ac}(h:∀i,0<=gi l i/\gi l i<256)(p:Nat):∀k:Nat,0<=w32 l p k/\w32 l p k<2^(8*k)
|0=>by simp[w32]
|k+1=>by
  have h1:=V7 h p k;have h2:=h (p+k);have h3:(0:Int)<2^(8*k):=nN FU;have h4:=tN h2.1 (Int.le_of_lt h3);have h5:gi l (p+k)*2^(8*k)<=255*2^(8*k):=zl FP (Int.le_of_lt h3);rw[w32,show 8*(k+1)=8*k+8 by omega,Int.pow_add];omega
def wB(h:Bytes l)(i:Nat):0<=gi l i/\gi l i<256:=by
 by_cases hi:i<l.length
 .exact h _ (by rw[BZ l i hi];exact dF _)
 .have:gi l i=0:=by simp[gi,List.getD,iQ (tV hi)]
  omega
def xK(i:Nat)(hr:AA w0 ga (AR (.slice gd l.length l.length) live peak))(h1:(a:Int)+n<=live)(h2:live<=l.length)(h3:l.length<=1048576)(h4:4*i+4<=n):ak 117 #[ga,.agg (SP a n),.int .i64 i] w0 (RB w0 (.slice (some ⟨gd,a+4*i,none⟩) 4 4)):=by
 have CP:Hid (∀W,Below w0.heap.size w0 W->ak 162 #[ga,.agg (SP a n),.int .i64 ((4*i:Nat):Int),.int .i64 4] W (RB W (.slice (some ⟨gd,a+4*i,none⟩) 4 4))):=λW h=>iJ l.length (4*i) 4 (hr.keep W h) h1 h2 h3 h4 FP;have q1:decide ((i:Int)<0)=false:=an;have q2:decide (1048576<(i:Int))=false:=an;have w1:IntKind.i64.wrap ((i:Int)*4)=((4*i:Nat):Int):=by rw[aZ _ FP];push_cast;omega
 clear hr h1 h2 h3 h4;go_enter func117,ntmps117;have hm:=Own.nil w0
 go_wp2_with(first
 |go_at_call 162;refine cB (CP.o _ hm.below) hm ?_;clear hm;intro w1 hm
 |refine UV ?_;try(clear hm;intro w gp hm))
 go_ret;exact cL
def Zk{a:OA}(ho:o.op=.binOp .neq 22 x y t')(hx:a.eval x=.slice (some A) n c)(hy:a.eval y=.slice none 0 0):(execOp a.eval o).run prog w=.ok (.value (.bool true)) w:=by
 have h:(Op.equal 22 (.slice (some A) n c) (.slice none 0 0)).run prog w=.ok false w:=Qi w A n c;exact uk
def dW(a n i:Nat)(hr:AA w0 ga (AR (.slice gd l.length l.length) live peak))(hd:AA w0 gd (B l))(hb:Bytes l)(h1:(a:Int)+n<=live)(h2:live<=l.length)(h3:l.length<=1048576)(h4:4*i+4<=n):ak 120 #[ga,.agg (SP a n),.int .i64 i] w0 (RB w0 (.tuple #[.int .u32 (w32 l (a+4*i) 4),.bool true])):=by
 have CP:Hid (∀W,Below w0.heap.size w0 W->ak 117 #[ga,.agg (SP a n),.int .i64 i] W (RB W (.slice (some ⟨gd,a+4*i,none⟩) 4 4))):=λW h=>xK i (hr.keep W h) h1 h2 h3 h4;have HD:=aa hd.keep;have HG:Hid (∀k,k<4->(B l)[a+4*i+k]?=some (.int .u8 (gi l (a+4*i+k)))):=λk hk=>Zd l _ FP;have HB:=aa (wB hb);obtain⟨i5,hE⟩:=nP;have HE:=aa hE;clear hr hd hb h1 h2 h3 h4 hE;generalize a+4*i=p at*;go_enter func120,ntmps120;have hm:=Own.nil w0
 go_wp2_with(first
 |go_at_call 117;refine cB (CP.o _ hm.below) hm ?_;clear hm;intro w1 hm
 |(with_reducible first|refine wb hm ?_;clear hm;intro w g hm|refine aM 50 0 hm ?_ (ht:=al Eo)))
 go_loopw[6,17] (λz u wr=>∃k:Nat,k<=4/\u=.int .i64 k/\z=.int .u32 (w32 l p k)/\Own w0 wr [(g,SP a n)] []) (λ_ u _=>4-(intOf u).toNat)
 case atStart=>exact⟨0,FP,rfl,rfl,hm⟩
 case round=>
  clear hm;obtain⟨k,hk,rfl,rfl,hm⟩:=hrel;have hc:k=0\/k=1\/k=2\/k=3\/k=4:=FP
  clear hk;have hB:=V7 HB.o p k;have hx:=HB.o (p+k);have HW:Hid (w32 l p (k+1)=w32 l p k+gi l (p+k)*2^(8*k)):=aa rfl;rcases hc with rfl|rfl|rfl|rfl|rfl
  .have hcell:=HG.o 0 FU;have hlt:0<4:=FU
   generalize gi l (p+0)=x at*;generalize w32 l p 0=y at*;have w1:IntKind.u32.wrap x=x:=jO _ FP;have hm1:x*1%4294967296=x*1:=FP
   have EO:Hid (Value.int .u32 (bits .or .u32 y x)=Value.int .u32 (y+x*2^(8*0))):=aa (by
    have h:=bits_join_low .u32 32 FU (λn h0 h1=>jO n FP) 0 y x FP FP FP FP FP FP
    rw[h];simp)
   clear hB hx
   go_wp2_with(first
    |with_reducible refine cA ?_;(refine A8 rfl (db (k:=0) rfl HE.o rfl rfl rfl hlt) ?_)
    |with_reducible refine bh (t:=5) ?_;(refine A8 rfl (Aa (off:=p+0) rfl rfl (HD.o _ hm.below) FV hcell) ?_))
   go_roundw
   case rel=>exact⟨1,FP,rfl,by rw[HW.o];exact EO.o,hm⟩
   case measure=>simp[intOf]
  .have hcell:=HG.o 1 FU;have hlt:1<4:=FU
   generalize gi l (p+1)=x at*;generalize w32 l p 1=y at*;have w1:IntKind.u32.wrap x=x:=jO _ FP;have hm1:x*256%4294967296=x*256:=FP
   have EO:Hid (Value.int .u32 (bits .or .u32 y (x*256))=Value.int .u32 (y+x*2^(8*1))):=aa (by
    have h:=bits_join_low .u32 32 FU (λn h0 h1=>jO n FP) 8 y (x*256) FP FP FP FP FP FP
    rw[h];simp)
   clear hB hx
   go_wp2_with(first
    |with_reducible refine cA ?_;(refine A8 rfl (db (k:=1) rfl HE.o rfl rfl rfl hlt) ?_)
    |with_reducible refine bh (t:=5) ?_;(refine A8 rfl (Aa (off:=p+1) rfl rfl (HD.o _ hm.below) FV hcell) ?_))
   go_roundw
   case rel=>exact⟨2,FP,rfl,by rw[HW.o];exact EO.o,hm⟩
   case measure=>simp[intOf]
  .have hcell:=HG.o 2 FU;have hlt:2<4:=FU
   generalize gi l (p+2)=x at*;generalize w32 l p 2=y at*;have w1:IntKind.u32.wrap x=x:=jO _ FP;have hm1:x*65536%4294967296=x*65536:=FP
   have EO:Hid (Value.int .u32 (bits .or .u32 y (x*65536))=Value.int .u32 (y+x*2^(8*2))):=aa (by
    have h:=bits_join_low .u32 32 FU (λn h0 h1=>jO n FP) 16 y (x*65536) FP FP FP FP FP FP
    rw[h];simp)
   clear hB hx
   go_wp2_with(first
    |with_reducible refine cA ?_;(refine A8 rfl (db (k:=2) rfl HE.o rfl rfl rfl hlt) ?_)
    |with_reducible refine bh (t:=5) ?_;(refine A8 rfl (Aa (off:=p+2) rfl rfl (HD.o _ hm.below) FV hcell) ?_))
   go_roundw
   case rel=>exact⟨3,FP,rfl,by rw[HW.o];exact EO.o,hm⟩
   case measure=>simp[intOf]
  .have hcell:=HG.o 3 FU;have hlt:3<4:=FU
   generalize gi l (p+3)=x at*;generalize w32 l p 3=y at*;have w1:IntKind.u32.wrap x=x:=jO _ FP;have hm1:x*16777216%4294967296=x*16777216:=FP
   have EO:Hid (Value.int .u32 (bits .or .u32 y (x*16777216))=Value.int .u32 (y+x*2^(8*3))):=aa (by
    have h:=bits_join_low .u32 32 FU (λn h0 h1=>jO n FP) 24 y (x*16777216) FP FP FP FP FP FP
    rw[h];simp)
   clear hB hx
   go_wp2_with(first
    |with_reducible refine cA ?_;(refine A8 rfl (db (k:=3) rfl HE.o rfl rfl rfl hlt) ?_)
    |with_reducible refine bh (t:=5) ?_;(refine A8 rfl (Aa (off:=p+3) rfl rfl (HD.o _ hm.below) FV hcell) ?_))
   go_roundw
   case rel=>exact⟨4,FP,rfl,by rw[HW.o];exact EO.o,hm⟩
   case measure=>simp[intOf]
  .go_wp2_with(first
    |with_reducible refine jz ?_;(refine A8 rfl (Zk rfl rfl rfl) ?_))
   go_ret2
   exact cL
end
def bo(l:ac)(p:Nat)(v:Int):Nat->ac
|0=>l
|k+1=>(bo l p v k).set (p+k) (v/2^(8*k)%256)
def Xd(l:ac)(p:Nat)(v:Int):∀k,(bo l p v k).length=l.length
|0=>rfl
|k+1=>by rw[bo,cO,Xd l p v k]
def ND(l:ac)(p:Nat)(v:Int)(i:Nat):∀k,p+k<=l.length->gi (bo l p v k) i=if p<=i/\i<p+k then v/2^(8*(i-p))%256 else gi l i
|0,_=>by rw[bo,aP FP]
|k+1,h=>by
  rw[bo,DY (by rw[Xd];omega),ND l p v i k FP];by_cases e:i=p+k
  .rw[aQ e,aQ FP,show i-p=k by omega]
  .rw[aP e];by_cases e2:p<=i/\i<p+k
   .rw[aQ e2,aQ FP]
   .rw[aP e2,aP FP]
def V6{l m:ac}{p:Nat}:∀k,(∀i,p<=i->i<p+k->gi l i=gi m i)->w32 l p k=w32 m p k
|0,_=>rfl
|k+1,h=>by rw[w32,w32,V6 k (λi h1 h2=>h i h1 FP),h (p+k) FP FP]
def yX{l:ac}{p:Nat}{v:Int}(h:p+4<=l.length)(h0:0<=v)(h1:v<4294967296):w32 (bo l p v 4) p 4=v:=by
 simp only[w32];rw[ND l p v _ 4 h,ND l p v _ 4 h,ND l p v _ 4 h,ND l p v _ 4 h,aQ FP,aQ FP,aQ FP,aQ FP,show p+0-p=0 by omega,show p+1-p=1 by omega,show p+2-p=2 by omega,show p+3-p=3 by omega];simp;omega
def aF{l:ac}{p q:Nat}{v:Int}(h:p+4<=l.length)(hq:q+4<=p\/p+4<=q):w32 (bo l p v 4) q 4=w32 l q 4:=
 V6 4 λi h1 h2=>by rw[ND l p v i 4 h,aP FP]
def V8{l:ac}{p:Nat}{v:Int}(hb:Bytes l):∀k,Bytes (bo l p v k)
|0=>hb
|k+1=>λx hx=>by
  rcases kV hx with h|rfl
  .exact V8 hb k x h
  .omega
def ud(ga gd a n i:Nat)(l:ac)(v live peak:Int){w0 w:FC}{rs:ae}{ss:O1}(ja jd:Nat)(hm:Own w0 w rs ss)(hja:rs[ja]?=some (ga,AR (.slice gd l.length l.length) live peak))(hjd:rs[jd]?=some (gd,B l))(h1:(a:Int)+n<=live)(h2:live<=l.length)(h3:l.length<=1048576)(h4:4*i+4<=n)(v0:0<=v)(v1:v<4294967296)(hne:ja≠jd):ak 68 #[ga,.agg (SP a n),.int .i64 i,.int .u32 v] w (RO (.bool true) w0 (rs.set jd (gd,B (bo l (a+4*i) v 4))) ss):=by
 have CP:Hid (∀W,AA W ga (AR (.slice gd l.length l.length) live peak)->ak 117 #[ga,.agg (SP a n),.int .i64 i] W (RB W (.slice (some ⟨gd,a+4*i,none⟩) 4 4))):=λW h=>xK i h h1 h2 h3 h4;have hjl:=(gI.1 hjd).1;have HS:Hid (∀k,k<4->(B (bo l (a+4*i) v k)).setIfInBounds (a+4*i+k) (.int .u8 (v/2^(8*k)%256))=B (bo l (a+4*i) v (k+1))):=λk hk=>by rw[ky];rfl
 have HZ:Hid (∀k,k<4->a+4*i+k<(B (bo l (a+4*i) v k)).size):=λk hk=>by rw[Ih,Xd];omega
 have hse:rs.set jd (gd,B l)=rs:=set_self rs jd _ hjd;have HSE:=aa hse;have HJ:Hid (∀(cs:ai)(x:O9),(x::rs.set jd (gd,cs))[jd+1]?=some (gd,cs)):=λcs x=>by simp[hjl]
 obtain⟨i5,hE⟩:=nP;have HE:=aa hE;have HA:=aa hja;clear h1 h2 h3 h4 hE hja hjd hjl hse;generalize a+4*i=p at*;go_enter func68,ntmps68
 go_wp2_with(first
 |go_at_call 117;refine cB (CP.o _ (hm.row (ja+1) HA.o)) hm ?_;clear hm;intro w1 hm
 |(with_reducible first|refine wb hm ?_;clear hm;intro w g hm|refine aM 50 0 hm ?_ (ht:=al Eo)))
 rw[<-HSE.o,show l=bo l p v 0 from rfl]at hm
 go_loopw[17] (λu wr=>∃k:Nat,k<=4/\u=.int .i64 k/\Own w0 wr ((g,SP a n)::rs.set jd (gd,B (bo l p v k))) ss) (λu _=>4-(intOf u).toNat)
 case atStart=>exact⟨0,FP,rfl,hm⟩
 case round=>
  clear hm;obtain⟨k,hk,rfl,hm⟩:=hrel;have hc:k=0\/k=1\/k=2\/k=3\/k=4:=FP
  clear hk;rcases hc with rfl|rfl|rfl|rfl|rfl
  .have hs:=HS.o 0 FU;have hz:=HZ.o 0 FU;have hj:=HJ.o (B (bo l p v 0)) (g,SP a n);have HS1:=aa hs;have HS2:Hid ((B (bo l p v 0)).setIfInBounds (p+0) (.int .u8 (v%256))=B (bo l p v 1)):=aa Hw;have HS4:Hid ((B (bo l p v 0)).setIfInBounds (p+0) (.int .u8 (v%256))=B (bo l p v 1)):=aa (by exact HS2.o);have hlt:0<4:=FU
   have hd:v/1/1=v/2^(8*0):=G5
   clear hs;generalize bo l p v 0=l1 at*;generalize hl2:bo l p v 1=l2 at*
   go_wp2_with(first
    |with_reducible refine cA ?_;(refine A8 rfl (db (k:=0) rfl HE.o rfl rfl rfl hlt) ?_)
    |with_reducible refine bE (t:=5) ?_;(refine Ad rfl (AZ (off:=p+0) (jd+1) hm rfl rfl (Ac rfl) hj (ot rfl) hz rfl rfl Kt ?_);clear hm;intro w hm;simp only[ku,qG]at hm))
   go_roundw
   case rel=>exact⟨1,FP,rfl,by rw[hl2];exact hm⟩
   case measure=>simp[intOf]
  .have hs:=HS.o 1 FU;have hz:=HZ.o 1 FU;have hj:=HJ.o (B (bo l p v 1)) (g,SP a n);have HS1:=aa hs;have HS2:Hid ((B (bo l p v 1)).setIfInBounds (p+1) (.int .u8 (v/256%256))=B (bo l p v 2)):=aa Hw;have HS4:Hid ((B (bo l p v 1)).setIfInBounds (p+1) (.int .u8 (v/256%256))=B (bo l p v 2)):=aa (by exact HS2.o);have hlt:1<4:=FU
   have hd:v/256/1=v/2^(8*1):=G5
   clear hs;generalize bo l p v 1=l1 at*;generalize hl2:bo l p v 2=l2 at*
   go_wp2_with(first
    |with_reducible refine cA ?_;(refine A8 rfl (db (k:=1) rfl HE.o rfl rfl rfl hlt) ?_)
    |with_reducible refine bE (t:=5) ?_;(refine Ad rfl (AZ (off:=p+1) (jd+1) hm rfl rfl (Ac rfl) hj (ot rfl) hz rfl rfl Kt ?_);clear hm;intro w hm;simp only[ku,qG]at hm))
   go_roundw
   case rel=>exact⟨2,FP,rfl,by rw[hl2];exact hm⟩
   case measure=>simp[intOf]
  .have hs:=HS.o 2 FU;have hz:=HZ.o 2 FU;have hj:=HJ.o (B (bo l p v 2)) (g,SP a n);have HS1:=aa hs;have HS2:Hid ((B (bo l p v 2)).setIfInBounds (p+2) (.int .u8 (v/65536%256))=B (bo l p v 3)):=aa Hw;have HS4:Hid ((B (bo l p v 2)).setIfInBounds (p+2) (.int .u8 (v/65536%256))=B (bo l p v 3)):=aa (by exact HS2.o);have hlt:2<4:=FU
   have hd:v/65536/1=v/2^(8*2):=G5
   clear hs;generalize bo l p v 2=l1 at*;generalize hl2:bo l p v 3=l2 at*
   go_wp2_with(first
    |with_reducible refine cA ?_;(refine A8 rfl (db (k:=2) rfl HE.o rfl rfl rfl hlt) ?_)
    |with_reducible refine bE (t:=5) ?_;(refine Ad rfl (AZ (off:=p+2) (jd+1) hm rfl rfl (Ac rfl) hj (ot rfl) hz rfl rfl Kt ?_);clear hm;intro w hm;simp only[ku,qG]at hm))
   go_roundw
   case rel=>exact⟨3,FP,rfl,by rw[hl2];exact hm⟩
   case measure=>simp[intOf]
  .have hs:=HS.o 3 FU;have hz:=HZ.o 3 FU;have hj:=HJ.o (B (bo l p v 3)) (g,SP a n);have HS1:=aa hs;have HS2:Hid ((B (bo l p v 3)).setIfInBounds (p+3) (.int .u8 (v/16777216%256))=B (bo l p v 4)):=aa Hw;have HS4:Hid ((B (bo l p v 3)).setIfInBounds (p+3) (.int .u8 (v/16777216))=B (bo l p v 4)):=aa (by have h:=HS2.o;rw[show v/16777216%256=v/16777216 by omega]at h;exact h);have hlt:3<4:=FU
   have hd:v/16777216/1=v/2^(8*3):=G5
   clear hs;generalize bo l p v 3=l1 at*;generalize hl2:bo l p v 4=l2 at*
   go_wp2_with(first
    |with_reducible refine cA ?_;(refine A8 rfl (db (k:=3) rfl HE.o rfl rfl rfl hlt) ?_)
    |with_reducible refine bE (t:=5) ?_;(refine Ad rfl (AZ (off:=p+3) (jd+1) hm rfl rfl (Ac rfl) hj (ot rfl) hz rfl rfl Kt ?_);clear hm;intro w hm;simp only[ku,qG]at hm))
   go_roundw
   case rel=>exact⟨4,FP,rfl,by rw[hl2];exact hm⟩
   case measure=>simp[intOf]
  .go_wp2_with(first
    |with_reducible refine jz ?_;(refine A8 rfl (Zk rfl rfl rfl) ?_))
   exact mU
section
variable{peak:Int}{ss:O1}{a ga gs gx i k n:Nat}{o:Oz}{y:O7}{P:O8}{rs:ae}{t':O4}{w w0:FC}
def YC(k:Nat){d:NY}{live:Int}(hr:AA w ga (AR d live peak))(h1:(a:Int)+n<=live)(h3:live<=1048576)(h4:n<i+k)(h5:i<=1048576)(h6:k<=1048576):ak 162 #[ga,.agg (SP a n),.int .i64 i,.int .i64 k] w (RB w (.slice none 0 0)):=by
 have HR:=aa hr.keep;clear hr;go_enter func162,ntmps162;exact M0
def TZ(w:FC)(d:Nat)(t e:O4)(h:P.underlying t=some (.slice e)):(Op.equalIn (d+1) t (.slice none 0 0) (.slice none 0 0)).run P w=.ok true w:=by
 simp[Op.equalIn,bL h]
def Yp{a:OA}{x:O7}(ho:o.op=.binOp .eql 22 x y t')(hx:a.eval x=.slice none 0 0)(hy:a.eval y=.slice none 0 0):(execOp a.eval o).run prog w=.ok (.value (.bool true)) w:=by
 have h:(Op.equal 22 (.slice none 0 0) (.slice none 0 0)).run prog w=.ok true w:=TZ w 9999 22 5 underlying22;exact uk
def Rs{d:NY}{live:Int}(hr:AA w ga (AR d live peak))(h1:(a:Int)+n<=live)(h3:live<=1048576)(h4:n<=i)(h5:i<=1048576):ak 116 #[ga,.agg (SP a n),.int .i64 i] w (RB w (.tuple #[.int .u8 0,.bool false])):=by
 have HR:=aa hr.keep;clear hr;go_enter func116,ntmps116;have hm:=Own.nil w
 go_wp2_with(first
 |go_at_call 162;refine cB (YC 1 (HR.o _ hm.below) h1 h3 FP h5 FP) hm ?_;clear hm;intro w1 hm
 |((with_reducible refine jz (t:=22) ?_);refine A8 rfl (Yp rfl rfl rfl) ?_)
 |refine U ?_;try(clear hm;intro w g hm))
 go_ret2
 exact cL
@[reducible] def SRr (ga:Nat) (ta tn ra rn many:Int):ai:=#[ga,.int .i64 ta,.int .i64 tn,.int .i64 ra,.int .i64 rn,.int .i64 many]
@[reducible] def bkR (gs ga gx ta tn ra rn:Nat) (live peak many:Int) (l:ac) (rs:ae):ae:=(gs,SRr ga ta tn ra rn many)::(ga,AR (.slice gx l.length l.length) live peak)::(gx,B l)::rs
structure BK(L:Nat)(x:ac)(ta ra N:Nat)(l:ac)(H:Nat->Nat):Prop where
 len:l.length=L
 byt:Bytes l
 txt:∀j,j<x.length->gi l (ta+j)=gi x j
 wds:∀i,i<N->w32 l (ra+4*i) 4=(H i:Int)
structure BG(L tn ta ra rn N:Nat)(live:Int):Prop where
 sm:tn<=4096
 od:ta+tn<=ra
 en:(ra:Int)+rn<=live
 lv:live<=L
 big:L<=1048576
 nw:4*N<=rn
def upd(H:Nat->Nat)(i v:Nat):Nat->Nat:=λj=>if j=i then v else H j
variable{L tn ta ra rn N:Nat}{live:Int}{x l:ac}{H:Nat->Nat}
def kv(i:Nat){j:Int}(hj:j=i)(many:Int)(hm:Own w0 w (bkR gs ga gx ta tn ra rn live peak many l rs) ss)(hk:BK L x ta ra N l H)(hg:BG L tn ta ra rn N live)(hi:i<N):ak 229 #[gs,.int .i64 j] w (RO (.int .i64 (H i)) w0 (bkR gs ga gx ta tn ra rn live peak many l rs) ss):=by
 subst hj;have hw:=hk.wds i hi;have hl:=hk.len;have h1:=hg.od;have h2:=hg.en;have h3:=hg.lv;have h4:=hg.big;have h5:=hg.nw;have hb:=(V7 (wB hk.byt) (ra+4*i) 4).2;rw[hw]at hb;have CW:Hid (∀W,Own w0 W (bkR gs ga gx ta tn ra rn live peak many l rs) ss->ak 120 #[ga,.agg (SP ra rn),.int .i64 i] W (RO (.tuple #[.int .u32 (H i),.bool true]) w0 (bkR gs ga gx ta tn ra rn live peak many l rs) ss)):=λW h=>(dW ra rn i (h.row 1 rfl) (h.row 2 rfl) hk.byt h2 FP FP FP).mono λe w' h'=>⟨by rw[<-hw];exact h'.1,h.call h'.2⟩;clear hk hg hw hl h1 h2 h3 h4 h5;go_enter func229,ntmps229
 go_wp2_with(first
 |go_at_call 120;refine MP (CW.o _ hm) ?_;clear hm;intro w1 hm
 |refine U ?_;try(clear hm;intro w g hm))
 exact gR
def mF(i v:Nat){j:Int}(hj:j=i)(many:Int)(hm:Own w0 w (bkR gs ga gx ta tn ra rn live peak many l rs) ss)(hk:BK L x ta ra N l H)(hx:x.length=tn)(hg:BG L tn ta ra rn N live)(hi:i<N)(hv:v<=65536):ak 256 #[gs,.int .i64 j,.int .i64 v] w λe w'=>(e=.returned (.tuple #[]))/\∃l',BK L x ta ra N l' (upd H i v)/\Own w0 w' (bkR gs ga gx ta tn ra rn live peak many l' rs) ss:=by
 subst hj;have hl:=hk.len;have h1:=hg.od;have h2:=hg.en;have h3:=hg.lv;have h4:=hg.big;have h5:=hg.nw
 have hk2:BK L x ta ra N (bo l (ra+4*i) v 4) (upd H i v):=by
  refine⟨by rw[Xd];exact hl,V8 hk.byt 4,λj hj=>?_,λj hj=>?_⟩
  .rw[ND _ _ _ _ 4 FP,aP FP];exact hk.txt j hj
  .unfold upd;by_cases e:j=i
   .subst e;rw[aQ rfl,yX FP FP FP]
   .rw[aP e,aF FP FP];exact hk.wds j hj
 have CW:Hid (∀W,Own w0 W (bkR gs ga gx ta tn ra rn live peak many l rs) ss->ak 68 #[ga,.agg (SP ra rn),.int .i64 i,.int .u32 v] W (RO (.bool true) w0 (bkR gs ga gx ta tn ra rn live peak many (bo l (ra+4*i) v 4) rs) ss)):=λW h=>(ud ga gx ra rn i l v live peak 1 2 h rfl rfl h2 FP FP FP FP FP FU).mono λe w' h'=>⟨h'.1,by rw[bkR,Xd];exact h'.2⟩;have HK:=aa hk2;clear hk hg hl h1 h2 h3 h4 h5 hk2;go_enter func256,ntmps256
 go_wp2_with(first
 |go_at_call 68;refine MP (CW.o _ hm) ?_;clear hm;intro w1 hm
 |refine U ?_;try(clear hm;intro w g hm))
 go_end0
 exact⟨rfl,_,HK.o,hm⟩
def Od(many:Int)(hm:Own w0 w (bkR gs ga gx ta tn ra rn live peak many l rs) ss)(hk:BK L x ta ra N l H)(hx:x.length=tn)(hg:BG L tn ta ra rn N live)(hi:i<=tn)(hj:k<=tn):ak 227 #[gs,.int .i64 i,.int .i64 k] w (RO (.bool (sl (x.drop i) (x.drop k))) w0 (bkR gs ga gx ta tn ra rn live peak many l rs) ss):=by
 have hl:=hk.len;have h1:=hg.od;have h2:=hg.en;have h3:=hg.lv;have h4:=hg.big;have h5:=hg.nw;have h6:=hg.sm
 have CB:Hid (∀W(j:Nat),j<=tn->Own w0 W (bkR gs ga gx ta tn ra rn live peak many l rs) ss->ak 116 #[ga,.agg (SP ta tn),.int .i64 (j:Nat)] W (RO (.tuple #[.int .u8 (gi x j),.bool (decide (j<tn))]) w0 (bkR gs ga gx ta tn ra rn live peak many l rs) ss)):=λW j hj h=>by
  by_cases h7:j<tn
  .rw[aW h7];exact(k8 ga ta tn j l live peak (h.row 1 rfl) (h.row 2 rfl) FP FP FP h7).mono λe w' h'=>⟨by rw[<-hk.txt j FP];exact h'.1,h.call h'.2⟩
  .rw[aU h7,show gi x j=0 by simp[gi,List.getD,iQ (show x.length<=j by omega)]];exact(Rs (h.row 1 rfl) FP FP FP FP).mono λe w' h'=>⟨h'.1,h.call h'.2⟩
 clear hk hg hl h1 h2 h3 h4 h5;go_enter func227,ntmps227;go_wp2
 go_loopw[1,2] (λu v wr=>∃i' k':Nat,i'<=tn/\k'<=tn/\u=.int .i64 i'/\v=.int .i64 k'/\sl (x.drop i') (x.drop k')=sl (x.drop i) (x.drop k)/\Own w0 wr (bkR gs ga gx ta tn ra rn live peak many l rs) ss) (λu _ _=>tn-(intOf u).toNat)
 case atStart=>exact⟨i,k,hi,hj,rfl,rfl,rfl,hm⟩
 case round=>
  clear hm hi hj;obtain⟨i,k,hi,hj,rfl,rfl,hq,hm⟩:=hrel;have hd:∀j,j<tn->x.drop j=gi x j::x.drop (j+1):=λj h=>by rw[jg FP,BZ _ _ FP]
  have hcase:(i=tn/\k<tn/\sl (x.drop i) (x.drop k)=true)\/(i=tn/\k=tn/\sl (x.drop i) (x.drop k)=false)\/(i<tn/\k=tn/\sl (x.drop i) (x.drop k)=false)\/(i<tn/\k<tn/\((gi x i<gi x k/\sl (x.drop i) (x.drop k)=true)\/(gi x k<gi x i/\sl (x.drop i) (x.drop k)=false)\/(gi x i=gi x k/\i=k/\sl (x.drop i) (x.drop k)=false)\/(gi x i=gi x k/\i≠k/\sl (x.drop (i+1)) (x.drop (k+1))=sl (x.drop i) (x.drop k)))):=by
   have hn:x.drop tn=[]:=qh FP;rcases bF i tn with h1|h1
   .rcases bF k tn with h2|h2
    .refine .inr (.inr (.inr ⟨h1,h2,?_⟩));rw[hd i h1,hd k h2];rcases vw (gi x i) (gi x k)with h3|h3|h3
     .exact .inl ⟨h3,by simp[sl,h3]⟩
     .refine .inr (.inr ?_);by_cases h4:i=k
      .subst h4;exact .inl ⟨rfl,rfl,n7 _⟩
      .exact .inr ⟨h3,h4,by rw[h3];simp[sl]⟩
     .exact .inr (.inl ⟨h3,by simp[sl,show¬gi x i<gi x k by omega,show¬gi x i=gi x k by omega]⟩)
    .obtain rfl:k=tn:=FP
     exact .inr (.inr (.inl ⟨h1,rfl,by rw[hn,hd i h1];rfl⟩))
   .obtain rfl:i=tn:=FP
    rw[hn];rcases bF k i with h2|h2
    .exact .inl ⟨rfl,h2,by rw[hd k h2];rfl⟩
    .obtain rfl:k=i:=FP
     exact .inr (.inl ⟨rfl,rfl,by rw[hn];rfl⟩)
  have HQ:=aa hq;have HX:=aa hx;clear hd hq hx;rcases hcase with⟨hi,hj,hz⟩|⟨hi,hj,hz⟩|⟨hi,hj,hz⟩|⟨hi,hj,⟨h1,hz⟩|⟨h1,hz⟩|⟨h1,rfl,hz⟩|⟨h1,h2,hz⟩⟩
  all_goals
   first|have HZ:=aa (hz.symm.trans HQ.o)|have HZ:=aa (hz.trans HQ.o)
   clear hz HQ
   first|(have p1:decide (i<tn)=true:=az)|(have p1:decide (i<tn)=false:=an)
   try first|(have p2:decide (k<tn)=true:=az)|(have p2:decide (k<tn)=false:=an)
   try first|(have p3:decide (gi x i<gi x k)=true:=az)|(have p3:decide (gi x i<gi x k)=false:=an)
   go_wp2_with(first
   |go_at_call 116;refine MP (CB.o _ _ FP hm) ?_;clear hm;intro w1 hm
   |refine U ?_;try(clear hm;intro w g hm))
   first
   |go_ret;exact⟨by rw[<-HZ.o];rfl,hm⟩
   |go_roundw;(case rel=>exact⟨i+1,k+1,FP,FP,by go_num,by go_num,HZ.o,hm⟩);(case measure=>simp[intOf];omega)
end
section
variable{L tn ta ra rn N:Nat}{live:Int}{x l:ac}{H:Nat->Nat}
@[reducible] def RX (x:ac) (i k:Nat):Bool:=sl (x.drop i) (x.drop k)
def ZA{gs ga gx n:Nat}{peak:Int}{w0 w:FC}{rs:ae}{ss:O1}(hm:Own w0 w (bkR gs ga gx ta tn ra rn live peak n l rs) ss)(hk:BK L x ta ra N l H)(hx:x.length=tn)(hg:BG L tn ta ra rn N live)(hn:0<n)(hN:n<=N)(hH:∀j,j<n->H j<=tn)(hD:Dn (RX x) H n 0):ak 257 #[gs,.int .i64 0] w λe w'=>(e=.returned (.tuple #[]))/\∃l' H',BK L x ta ra N l' H'/\Pm n H H'/\Hp (RX x) H' n/\Own w0 w' (bkR gs ga gx ta tn ra rn live peak n l' rs) ss:=by
 have h4:=hg.big;have h5:=hg.nw;have h6:=hg.sm;have h7:=hg.en;have h8:=hg.lv;have h9:=hg.od;go_enter func257,ntmps257;go_wp2
 go_loopw[1] (λu wr=>∃(i:Nat)(l':ac)(H':Nat->Nat),i<n/\u=.int .i64 i/\BK L x ta ra N l' H'/\Pm n H H'/\Dn (RX x) H' n i/\Own w0 wr (bkR gs ga gx ta tn ra rn live peak n l' rs) ss) (λu _=>n-(intOf u).toNat)
 case atStart=>exact⟨0,l,H,hn,rfl,hk,Pm.refl _ _,hD,hm⟩
 case round=>
  clear hm hk hD;obtain⟨i,l,K,hi,rfl,hk,hP,hD,hm⟩:=hrel;have hK:∀j,j<n->K j<=tn:=λj h=>by obtain⟨m,h1,h2⟩:=hP.inn j h;rw[h2];exact hH m h1
  have hc:∃k,(k=2*i+1\/k=2*i+2)/\((k=2*i+1/\2*i+2<n/\RX x (K (2*i+1)) (K (2*i+2))=false)\/(k=2*i+2/\2*i+2<n/\RX x (K (2*i+1)) (K (2*i+2))=true)\/(k=2*i+1/\n<=2*i+2)):=by
   rcases bF (2*i+2) n with h|h
   .cases hq:RX x (K (2*i+1)) (K (2*i+2))with
   |true=>exact⟨2*i+2,.inr rfl,.inr (.inl ⟨rfl,h,rfl⟩)⟩
   |false=>exact⟨2*i+1,.inl rfl,.inl ⟨rfl,h,rfl⟩⟩
   .exact⟨2*i+1,.inl rfl,.inr (.inr ⟨rfl,h⟩)⟩
  obtain⟨k,hk2,hc⟩:=hc;have hd1:n<=k\/RX x (K i) (K k)=false->Hp (RX x) K n:=λh=>hD.done (λ_ _=>ov) (λ_ b _=>xt (x.drop b)) hk2 (λe h'=>by rcases hc with hc|hc|hc<;>first|exact hc.2.2|omega) (λe=>by rcases hc with hc|hc|hc<;>first|exact⟨FP,hc.2.2⟩|omega) h;have hd2:k<n->RX x (K i) (K k)=true->Dn (RX x) (ef K i k) n k:=λh h'=>hD.step (λ_ _=>ov) hk2 (λe h'=>by rcases hc with hc|hc|hc<;>first|exact hc.2.2|omega) (λe=>by rcases hc with hc|hc|hc<;>first|exact hc.2.2|omega) h h'
  have hr:n<=k\/(k<n/\RX x (K i) (K k)=false)\/(k<n/\RX x (K i) (K k)=true):=by
   rcases bF k n with h|h
   .cases hq:RX x (K i) (K k)<;>simp[h]
   .exact .inl h
  have HP:=aa hP;have HK:=aa hK;clear hP hD hH hn hK;have HD1:=aa hd1;have HD2:=aa hd2;clear hd1 hd2;clear hk2;rcases hc with⟨rfl,c1,c2⟩|⟨rfl,c1,c2⟩|⟨rfl,c1⟩
  all_goals
   rcases hr with r1|⟨r1,r2⟩|⟨r1,r2⟩
   all_goals
    first
   |exfalso;omega
   |skip
  all_goals
   go_wp2_with(first
    |go_at_call 229;refine MP (kv i FP n hm hk hg FP) ?_;clear hm;intro w1 hm
    |go_at_call 229;refine MP (kv (2*i+1) FP n hm hk hg FP) ?_;clear hm;intro w1 hm
    |go_at_call 229;refine MP (kv (2*i+2) FP n hm hk hg FP) ?_;clear hm;intro w1 hm
    |go_at_call 227;refine MP (Od n hm hk hx hg (HK.o _ FP) (HK.o _ FP)) ?_;clear hm;intro w1 hm
    |(go_at_call 256;have _t:=hk1;refine(mF _ _ (by first|exact(show _=((2*i+1:Nat):Int) by omega)|exact(show _=((2*i+2:Nat):Int) by omega)) n hm hk1 hx hg FP (by have:=HK.o i hi;omega)).mono ?_;clear hm;rintro e w1⟨rfl,l2,hk2,hm⟩)
    |go_at_call 256;refine(mF i _ rfl n hm hk hx hg FP (by have:=HK.o _ r1;omega)).mono ?_;clear hm;rintro e w1⟨rfl,l1,hk1,hm⟩
    |refine U ?_;try(clear hm;intro w g hm))
   first
   |refine aD (wS rfl _ _ _) rfl ?_;exact⟨rfl,l,K,hk,HP.o,HD1.o (by first|exact .inr r2|exact .inl r1),hm⟩
   |go_roundw;(case rel=>exact⟨_,l2,_,r1,by go_num,hk2,HP.o.trans (Pm.sw K hi r1),HD2.o r1 r2,hm⟩);(case measure=>simp[intOf];omega)
end
section
variable{cs:ai}{peak z:Int}{q:Ob}{ss:O1}{e g ga gs gx k m n:Nat}{rs:ae}{b1 b2 f:NY}{w w0:FC}
variable{L tn ta ra rn N:Nat}{live:Int}{x l:ac}{H:Nat->Nat}
def Y4(hm:Own w0 w (bkR gs ga gx ta tn ra rn live peak n l rs) ss)(hk:BK L x ta ra N l H)(hx:x.length=tn)(hg:BG L tn ta ra rn N live)(hN:n<N)(he:e<=tn)(hH:∀j,j<n->H j<=tn)(hD:Hp (RX x) H n):ak 255 #[gs,.int .i64 e] w λe' w'=>(e'=.returned (.tuple #[]))/\∃l' H',BK L x ta ra N l' H'/\Pm (n+1) (upd H n e) H'/\Hp (RX x) H' (n+1)/\Own w0 w' (bkR gs ga gx ta tn ra rn live peak (n+1:Nat) l' rs) ss:=by
 have h4:=hg.big;have h5:=hg.nw;have h6:=hg.sm;have h7:=hg.en;have h8:=hg.lv;have h9:=hg.od
 have hU:Up (RX x) (upd H n e) (n+1) n:=by
  refine⟨λj h0 h1 h2=>?_,λ_ j h0 h1 h2=>FP⟩;unfold upd;rw[aP FP,aP h2];exact hD j h0 FP
 have hH1:∀j,j<n+1->upd H n e j<=tn:=λj hj=>by
  unfold upd;split
  .exact he
  .exact hH j FP
 have HU:=aa hU;have HH:=aa hH1;clear hU hH1 hH hD;go_enter func255,ntmps255
 go_wp2_with(first
 |go_at_call 256;refine(mF n e rfl n hm hk hx hg hN FP).mono ?_;clear hm hk;rintro e w1⟨rfl,l1,hk,hm⟩
 |refine U ?_;try(clear hm;intro w g hm))
 go_loopw[4] (λu wr=>∃(i:Nat)(l':ac)(H':Nat->Nat),i<=n/\u=.int .i64 i/\BK L x ta ra N l' H'/\Pm (n+1) (upd H n e) H'/\Up (RX x) H' (n+1) i/\Own w0 wr (bkR gs ga gx ta tn ra rn live peak (n+1:Nat) l' rs) ss) (λu _=>(intOf u).toNat)
 case atStart=>exact⟨n,_,_,aX n,rfl,hk,Pm.refl _ _,HU.o,hm⟩
 case round=>
  clear hm hk HU;obtain⟨i,l,K,hi,rfl,hk,hP,hD,hm⟩:=hrel;have hK:∀j,j<n+1->K j<=tn:=λj h=>by obtain⟨m,h1,h2⟩:=hP.inn j h;rw[h2];exact HH.o m h1
  have HP:=aa hP;have HK:=aa hK;have HD:=aa hD;clear hP hK hD;rcases qw i with rfl|h0
  .go_wp2
   go_end0
   exact⟨rfl,l,K,hk,HP.o,HD.o.done (.inl rfl),hm⟩
  .obtain⟨u,hu⟩:∃u:Nat,u=(i-1)/2:=⟨_,rfl⟩;have hq:((i:Int)-1).tdiv 2=(u:Int):=by rw[Int.tdiv_eq_ediv_of_nonneg FP];omega
   have hui:u<i:=FP
   have HUU:=aa hu;clear hu
   have hr:(RX x (K u) (K i)=false/\Hp (RX x) K (n+1))\/(RX x (K u) (K i)=true/\Up (RX x) (ef K u i) (n+1) u):=by
    cases hr:RX x (K u) (K i)with
   |false=>exact .inl ⟨rfl,HD.o.done (.inr (by rw[<-HUU.o];exact hr))⟩
   |true=>
     have:=HD.o.step (λ_ _=>ov) (λ_ b _=>xt (x.drop b)) h0 FP (by rw[<-HUU.o];exact hr);rw[<-HUU.o]at this;exact .inr ⟨rfl,this⟩
   rcases hr with⟨hr,hd⟩|⟨hr,hd⟩
   all_goals
    have HD2:=aa hd;clear hd
    go_wp2_with(first
    |go_at_call 229;refine MP (kv u FP (n+1:Nat) hm hk hg FP) ?_;clear hm;intro w1 hm
    |go_at_call 229;refine MP (kv i FP (n+1:Nat) hm hk hg FP) ?_;clear hm;intro w1 hm
    |go_at_call 227;refine MP (Od (n+1:Nat) hm hk hx hg (HK.o _ FP) (HK.o _ FP)) ?_;clear hm;intro w1 hm
    |(go_at_call 256;have _t:=hk1;refine(mF i _ FP (n+1:Nat) hm hk1 hx hg FP (by have:=HK.o u FP;omega)).mono ?_;clear hm;rintro e w1⟨rfl,l2,hk2,hm⟩)
    |go_at_call 256;refine(mF u _ FP (n+1:Nat) hm hk hx hg FP (by have:=HK.o i FP;omega)).mono ?_;clear hm;rintro e w1⟨rfl,l1,hk1,hm⟩
    |refine U ?_;try(clear hm;intro w g hm))
    first
   |refine aD (wS rfl _ _ _) rfl ?_;exact⟨rfl,l,K,hk,HP.o,HD2.o,hm⟩
   |go_roundw;(case rel=>exact⟨u,l2,_,FP,by go_num,hk2,HP.o.trans (Pm.sw K FP FP),HD2.o,hm⟩);(case measure=>simp[intOf];omega)
def Pm.mono{H K:Nat->Nat}(h:Pm m H K)(hn:m<=n):Pm n H K:=
 ⟨λj hj=>h.out j FP,λj hj=>by
  by_cases hm:j<m
  .obtain⟨k,h1,h2⟩:=h.inn j hm;exact⟨k,FP,h2⟩
  .exact⟨j,hj,h.out j FP⟩,λN hN=>h.inj N FP⟩
structure GI(x:ac)(H:Nat->Nat)(n:Nat):Prop where
 hp:Hp (RX x) H n
 lt:∀j,j<n->H j<n
 inj:∀i j,i<j->j<n->H i≠H j
def GI.step{H H':Nat->Nat}(h:GI x H n)(hp:Pm (n+1) (upd H n n) H')(hh:Hp (RX x) H' (n+1)):GI x H' (n+1):=by
 refine⟨hh,λj hj=>?_,hp.inj (n+1) (aX _) λi j hij hj=>?_⟩
 .obtain⟨k,h1,h2⟩:=hp.inn j hj;rw[h2];unfold upd;split
  .omega
  .have:=h.lt k FP;omega
 .unfold upd;rw[aP FP];split
  .have:=h.lt i FP;omega
  .exact h.inj i j hij FP
def Ahl(many:Int)(hm:Own w0 w (bkR gs ga gx ta tn ra rn live peak many l rs) ss)(hk:BK L x ta ra N l H)(hx:x.length=tn)(hg:BG L tn ta ra rn N live)(hN:tn+1<=N)(hf:f=.func (.func 226) #[] #[b1,b2])
  (CF:Hid (∀W e l many,Own w0 W (bkR gs ga gx ta tn ra rn live peak many l rs) ss->ak 226 #[.int .i64 e,b1,b2] W (RO (.bool true) w0 (bkR gs ga gx ta tn ra rn live peak many l rs) ss))):ak 225 #[gs,.int .i64 ((tn:Int)+1),f] w λe' w'=>(e'=.returned (.tuple #[]))/\∃l' H',BK L x ta ra N l' H'/\GI x H' (tn+1)/\Own w0 w' (bkR gs ga gx ta tn ra rn live peak (tn+1:Nat) l' rs) ss:=by
 subst hf;have h6:=hg.sm;go_enter func225,ntmps225
 go_wp2_with(refine U ?_;try(clear hm;intro w g hm))
 go_loopw[16] (λu wr=>∃(e:Nat)(l':ac)(H':Nat->Nat),e<=tn+1/\u=.int .i64 e/\BK L x ta ra N l' H'/\GI x H' e/\Own w0 wr (bkR gs ga gx ta tn ra rn live peak e l' rs) ss) (λu _=>tn+1-(intOf u).toNat)
 case atStart=>exact⟨0,l,H,FP,rfl,hk,⟨λj h0 h1=>FP,λj h=>FP,λi j _ h=>FP⟩,hm⟩
 case round=>
  clear hm hk;obtain⟨e,l,K,he,rfl,hk,hG,hm⟩:=hrel;rcases bF e (tn+1)with hlt|hge
  .have HG:=aa hG;clear hG
   go_wp2_with(first
   |go_at_call 226;refine MP (CF.o _ _ _ _ hm) ?_;clear hm;intro w1 hm
   |go_at_call 255;refine(Y4 hm hk hx hg FP FP (λj h=>by have:=HG.o.lt j h;omega) HG.o.hp).mono ?_;clear hm hk;rintro e w1⟨rfl,l2,K2,hk,hP,hH,hm⟩
   |refine U ?_;try(clear hm;intro w g hm))
   go_roundw
   case rel=>exact⟨e+1,l2,K2,FP,by go_num,hk,HG.o.step hP hH,hm⟩
   case measure=>simp[intOf];omega
  .obtain rfl:e=tn+1:=FP
   go_wp2
   go_end0
   exact⟨rfl,l,K,hk,hG,hm⟩
def vS(w:FC)(g k:Nat):Nat:=match w.cell? ⟨g,k,none⟩with
|some (.int _ z)=>z.toNat
|_=>0
def E4(h:AA w g cs)(hk:cs.toList[k]?=some (.int q z)):vS w g k=z.toNat:=by
 rw[vS,h.cell,<-cE,hk]
def YR(hm:Own w0 w (bkR gs ga gx ta tn ra rn live peak (tn+1:Nat) l rs) ss)(hk:BK L x ta ra N l H)(hx:x.length=tn)(hg:BG L tn ta ra rn N live)(hN:tn+1<=N)(hG:GI x H (tn+1)):ak 228 #[gs] w λe' w'=>(e'=.returned (.int .i64 ((tn:Int)+1)))/\∃(l':ac)(H':Nat->Nat)(mm:Int),BK L x ta ra N l' H'/\(∀j,j<tn+1->H' j<tn+1)/\(∀i j,i<j->j<tn+1->RX x (H' i) (H' j)=true)/\Own w0 w' (bkR gs ga gx ta tn ra rn live peak mm l' rs) ss:=by
 have h6:=hg.sm;have hi0:=hG.inj;have hl0:=hG.lt;have HI:=aa hi0;have HL:=aa hl0;have HP0:=aa hG.hp;clear hG hi0 hl0;go_enter func228,ntmps228
 go_wp2_with(refine U ?_;try(clear hm;intro w g hm))
 go_loopw[] (λwr=>∃(n:Nat)(l':ac)(K:Nat->Nat),1<=n/\n<=tn+1/\BK L x ta ra N l' K/\Pm (tn+1) H K/\Hp (RX x) K n/\Sd (RX x) K n (tn+1)/\Own w0 wr (bkR gs ga gx ta tn ra rn live peak n l' rs) ss) (λwr=>vS wr gs 5)
 case atStart=>exact⟨tn+1,l,H,FP,FP,hk,Pm.refl _ _,HP0.o,λj k h1 h2 h3=>FP,hm⟩
 case round=>
  clear hm hk HP0;obtain⟨n,l,K,h1,h2,hk,hP,hH,hS,hm⟩:=hrel;have hlt:∀j,j<tn+1->K j<tn+1:=λj hj=>by obtain⟨k,h1,h2⟩:=hP.inn j hj;rw[h2];exact HL.o k h1
  rcases bF 1 n with h3|h3
  .obtain⟨m,rfl⟩:∃m,n=m+1:=⟨n-1,FP⟩;have hD:=hH.dn (H':=ef K 0 m) rfl h3
   have hS2:=Sd.step (λ_ b _=>xt (x.drop b)) (n7 _) (λi j hi hj hne=>by
    rcases yy (x.drop (K i)) (x.drop (K j))with h|h|h
    .exact .inl h
    .have h5:=congrArg List.length h;rw[dQ,dQ]at h5;have:=hlt i hi;have:=hlt j hj;exact absurd FP hne
    .exact .inr h) (hP.inj _ (aX _) HI.o) hH hS h3 h2
   have hP2:Pm (tn+1) H (ef K 0 m):=hP.trans (Pm.sw K FP FP);have HQ:Hid ((∀j,j<tn+1->K j<tn+1)/\Dn (RX x) (ef K 0 m) m 0/\Sd (RX x) (ef K 0 m) m (tn+1)/\Pm (tn+1) H (ef K 0 m)/\(∀j,j<m->ef K 0 m j<=tn)):=aa ⟨hlt,hD,hS2,hP2,λj hj=>by obtain⟨k,h1,h2⟩:=hP2.inn j FP;rw[h2];have:=HL.o k h1;omega⟩;have HC:=aa (E4 (hm.row 0 rfl) (k:=5) rfl);clear hlt hD hS2 hP2 hP hH hS
   go_wp2_with(first
   |go_at_call 229;refine MP (kv 0 FP m hm hk hg FP) ?_;clear hm;intro w1 hm
   |go_at_call 229;refine MP (kv m FP m hm hk hg FP) ?_;clear hm;intro w1 hm
   |(go_at_call 256;have _t:=hk1;refine(mF m _ FP m hm hk1 hx hg FP (by have:=HQ.o.1 0 FP;omega)).mono ?_;clear hm;rintro e w1⟨rfl,l2,hk2,hm⟩)
   |go_at_call 256;refine(mF 0 _ FP m hm hk hx hg FP (by have:=HQ.o.1 m FP;omega)).mono ?_;clear hm;rintro e w1⟨rfl,l1,hk1,hm⟩
   |go_at_call 257;refine(ZA hm hk2 hx hg FP FP HQ.o.2.2.2.2 HQ.o.2.1).mono ?_;clear hm;rintro e w1⟨rfl,l3,K3,hk3,hP3,hH3,hm⟩
   |refine uT [1,7] [0,2,3,4,5,6,1,7,8,9] hm ?_;clear hm;intro w g hm
   |refine U ?_;try(clear hm;intro w g hm))
   refine⟨?_,by rw[E4 (hm.row 0 rfl) rfl,HC.o];simp⟩
   repeat apply Exists.intro
   exact⟨⟨m,l3,K3,FP,FP,hk3,HQ.o.2.2.2.1.trans (hP3.mono FP),hH3,HQ.o.2.2.1.pm hP3,hm⟩,rfl⟩
  .obtain rfl:n=1:=FP
   have hq:∀i j,i<j->j<tn+1->RX x (K i) (K j)=true:=λi j h1 h2=>hS i j h1 FP h2
   go_wp2_with(refine U ?_;try(clear hm;intro w g hm))
   go_ret;exact⟨G5,l,K,_,hk,hlt,hq,hm⟩
end
section
variable{c:OA}{e live peak:Int}{ss:O1}{a b ca ga gl m n ra rn ta tn:Nat}{o:Oz}{y z:O7}{rs:ae}{w w0:FC}
def TK(h1:a+n<=b)(h2:b<=1048576)(h3:0<n)(h4:0<m):ak 254 #[.agg (SP a n),.agg (SP b m)] w (RB w (.bool true)):=by
 have q1:decide ((a:Int)+n<=b)=true:=az;have p1:((n:Int)==0)=false:=by simpa using (show¬(n:Int)=0 by omega)
 have p2:((m:Int)==0)=false:=by simpa using (show¬(m:Int)=0 by omega)
 go_enter func254,ntmps254;have hm:=Own.nil w
 go_wp2_with(refine U ?_;try(clear hm;intro w g hm))
 go_ret;exact cL
def Aia{d:NY}(hr:AA w ga (AR d live peak))(h1:ta+tn<=ca)(h2:ca+tn<=ra)(h3:(ra:Int)+rn<=live)(h4:live<=1048576)(h5:0<tn)(h6:tn<=65536)(h7:4<=rn):ak 224 #[ga,.agg (SP ta tn),.agg (SP ca tn),.agg (SP ra rn)] w (RB w (.bool true)):=by
 have HR:=aa hr.keep;have q1:decide ((tn:Int)<1)=false:=an;have q2:decide (65536<(tn:Int))=false:=an;have q3:decide ((rn:Int)<4)=false:=an;have q4:((tn:Int) !=tn)=false:=G5
 clear hr;go_enter func224,ntmps224;have hm:=Own.nil w
 go_wp2_with(first
 |go_at_call 64;refine cB (vZ (HR.o _ hm.below) FP FP FP FP) hm ?_;clear hm;intro w1 hm
 |go_at_call 254;refine cB (TK FP FP FP FP) hm ?_;clear hm;intro w1 hm
 |refine U ?_;try(clear hm;intro w g hm))
 go_ret;exact cL
variable{L N:Nat}{x:ac}
def Sc{x:O7}(ho:o.op=.build 313 #[(0,x),(1,y),(2,z)]){a n b m:Int}(hx:c.eval x=.pointer ga)(hy:c.eval y=.agg (SP a n))(hz:c.eval z=.agg (SP b m)):(execOp c.eval o).run prog w=.ok (.value (.agg (SRr ga a n b m 0))) w:=
 Dq ho (by simp only[cM,bT,bZ,hx,hy,hz];kernel_rfl)
def Aid(gp:Nat){v:NY}(hm:Own w0 w rs ss)(hl:(gl,#[Value.int .i64 (-1)])∈rs):ak 226 #[.int .i64 e,gl,v] w (RO (.bool true) w0 rs ss):=by
 obtain⟨i,hi⟩:=List.mem_iff_getElem?.1 hl;clear hl;go_enter func226,ntmps226
 go_wp2_with(first
 |((with_reducible refine bh (t:=3) ?_);refine A8 rfl (ld i hm rfl rfl hi (ot rfl) rfl) ?_)
 |refine U ?_;try(clear hm;intro w g hm))
 exact gR
end
section
variable{c peak:Int}{l:ac}{ss:O1}{ga gx i m:Nat}{y:O9}{rs:ae}{w w0:FC}
def Ha{α:Type}[DecidableEq α]:∀{l m:List α},l.Nodup->(∀a∈l,a∈m)->l.length<=m.length
|[],_,_,_=>dD _
|a::l,m,hn,h=>by
  rw[dR]at hn;have ha:=h a eP;have:=Ha (l:=l) (m:=m.erase a) hn.2 λb hb=>(List.mem_erase_of_ne λe=>hn.1 (by rw[<-e];exact hb)).2 (h b (fB _ hb));rw[zn ha]at this;have:=List.length_pos_of_mem ha;simp;omega
def OX:∀{L:b9},L.Nodup->0∈L->L.filter (· !=0)=L.eraseIdx (L.idxOf 0)
|[],_,h=>by cases h
|k::L,hn,h0=>by
  rw[dR]at hn;by_cases hk:k=0
  .subst hk;have e:L.filter (· !=0)=L:=zo.2 λa ha=>by simpa using λe:a=0=>hn.1 (e▸ha)
   simp[e]
  .have h0:0∈L:=(dh.1 h0).resolve_left (o9 hk);have e:(k==0)=false:=by simpa using hk
   simp[x9,e,hk];exact OX hn.2 h0
def S0{x:ac}{K:Nat->Nat}(hx:x.length=m)(hlt:∀j,j<m+1->K j<m+1)(hs:∀i j,i<j->j<m+1->RX x (K i) (K j)=true):
  ∃p,p<=m/\K p=0/\(∀j,j<=m->j≠p->1<=K j)/\(cF x).2=p/\∀j,j<m->gi (cF x).1 j=gi x (K (if j<p then j else j+1)-1):=by
 have hp:((List.range (m+1)).map K).Pairwise (λa b=>RX x a b=true):=by
  rw[tX];refine og.2 λi j hi hj h=>?_;rw[jT]at hi hj;simp only[List.getElem_range];exact hs i j h hj
 have hn:((List.range (m+1)).map K).Nodup:=hp.imp λ{a b}h e=>by rw[e,RX,n7]at h;cases h
 have hmem:∀k,k∈(List.range (m+1)).map K↔k<=x.length:=λk=>by
  constructor
  .intro h;obtain⟨j,hj,rfl⟩:=eX.1 h;have:=hlt j (dS.1 hj);omega
  .intro h;by_cases hk:k∈(List.range (m+1)).map K
   .exact hk
   .have h1:=Ha (m:=(List.range (m+1)).erase k) hn λa ha=>(List.mem_erase_of_ne λe=>hk (by rw[<-e];exact ha)).2 (by
     obtain⟨j,hj,rfl⟩:=eX.1 ha
     exact dS.2 (hlt j (dS.1 hj)))
    rw[zn (dS.2 FP)]at h1;simp at h1;omega
 have h0:=(hmem 0).2 (dD _);have e:=P3 x _ hn hmem hp;have hil:=List.idxOf_lt_length_of_mem h0
 have hk0:K (((List.range (m+1)).map K).idxOf 0)=0:=by
  have:=List.getElem_idxOf hil;rwa[List.getElem_map,List.getElem_range]at this
 have hil':((List.range (m+1)).map K).idxOf 0<m+1:=by simpa using hil
 rw[e];simp only[xp];rw[OX hn h0];generalize ((List.range (m+1)).map K).idxOf 0=p at*;refine⟨p,FP,hk0,λj hj hne=>?_,rfl,λj hj=>?_⟩
 .rcases qw (K j)with h|h
  .rcases Nat.lt_or_gt_of_ne hne with h1|h1
   .have:=hs j p h1 FP;rw[h,hk0,RX,n7]at this;cases this
   .have:=hs p j h1 FP;rw[h,hk0,RX,n7]at this;cases this
  .exact h
 .rw[gi,fU,jH,List.getElem?_eraseIdx];split
  .rw[jH,kY FP];rfl
  .rw[jH,kY FP];rfl
@[reducible] def bxR (gl gp gs g7 g6 g5 ta tn ca ra rn:Nat) (z:Int) (rs:ae):ae:=(gl,#[.int .i64 z])::(gp,#[.pointer gs])::(g7,SP ra rn)::(g6,SP ca tn)::(g5,SP ta tn)::rs
variable{L N ta tn ca ra rn:Nat}{live:Int}{x:ac}
def Own.drop2{x:O9}{X:ae}(h:Own w0 w (x::y::(X++rs)) ss):Own w0 w (x::y::rs) ss:=
 h.sub (.cons_cons x (.cons_cons y (bG X rs))) (aY _)
structure zJ(L:Nat)(x:ac)(ca:Nat)(l':ac):Prop where
 len:l'.length=L
 byt:Bytes l'
 col:∀j,j<x.length->gi l' (ca+j)=gi (cF x).1 j
def BK.put{K:Nat->Nat}(h:BK L x ta ra N l K)(hc:0<=c/\c<256)(h1:ta+x.length<=i)(h2:i<ra)(h3:i<L):BK L x ta ra N (l.set i c) K:=by
 have hl:=h.len;refine⟨by rw[cO];exact hl,zq h.byt hc,λj hj=>?_,λj hj=>?_⟩
 .rw[ol FP,aP FP];exact h.txt j hj
 .rw[<-h.wds j hj];exact V6 4 λk h3 h4=>by rw[ol FP,aP FP]
def Td(l:ac)(hm:Own w0 w ((ga,AR (.slice gx l.length l.length) live peak)::(gx,B l)::rs) ss)(hl:l.length=L)(hb:Bytes l)(hx:x.length=tn)(hx2:∀j,j<tn->gi l (ta+j)=gi x j)(hg:BG L tn ta ra rn N live)(h1:ta+tn<=ca)(h2:ca+tn<=ra)(h3:0<tn)(hN:N=tn+1):ak 188 #[ga,.agg (SP ta tn),.agg (SP ca tn),.agg (SP ra rn)] w λe w'=>∃(st:Int)(l':ac),e=.returned (.tuple #[.int .i64 (cF x).2,.int .i64 st,.int .i64 0])/\zJ L x ca l'/\Own w0 w' ((ga,AR (.slice gx l'.length l'.length) live peak)::(gx,B l')::rs) ss:=by
 have h4:=hg.big;have h5:=hg.nw;have h6:=hg.sm;have h7:=hg.en;have h8:=hg.lv
 have HK:Hid (BK L x ta ra N l λi=>(w32 l (ra+4*i) 4).toNat):=aa ⟨hl,hb,λj hj=>hx2 j FP,λi _=>by
  have:=(V7 (wB hb) (ra+4*i) 4).1
  omega⟩
 have HB:=aa hb;have hmin:(if(tn:Int)+1<(rn:Int)/4 then(tn:Int)+1 else(rn:Int)/4)=(tn:Int)+1:=by split<;>omega
 clear hx2 hb;go_enter func188,ntmps188
 go_wp2_with(first
 |go_at_call 224;refine cB (Aia (hm.row 3 rfl) h1 h2 h7 FP h3 FP FP) hm ?_;clear hm;intro w1 hm
 |((with_reducible refine cS (t:=313) ?_);refine A8 rfl (Sc rfl rfl rfl rfl) ?_)
 |refine U ?_;try(clear hm;intro w g hm))
 rename_i g5 _ g6 _ g7 _ gs _ gp _ _ _ gl _ _;replace hm:Own w0 w (bkR gs ga gx ta tn ra rn live peak 0 l (bxR gl gp gs g7 g6 g5 ta tn ca ra rn (-1) rs)) ss:=Own.front 4 (Own.front 7 (Own.front 7 hm rfl) rfl) rfl;clear hmin
 go_loopw[8,9,14,15] (λu8 u9 u14 u15 wr=>(u8=.int .i64 0/\u9=.int .i64 0/\u14=.int .i64 0/\u15=.int .i64 0/\Own w0 wr (bkR gs ga gx ta tn ra rn live peak 0 l (bxR gl gp gs g7 g6 g5 ta tn ca ra rn (-1) rs)) ss)\/(u8=.int .i64 (cF x).2/\u9=.int .i64 1/\u15=.int .i64 ((tn:Int)+1)/\∃l' mm z,zJ L x ca l'/\Own w0 wr (bkR gs ga gx ta tn ra rn live peak mm l' (bxR gl gp gs g7 g6 g5 ta tn ca ra rn z rs)) ss)) (λ_ u9 _ _ _=>(1-intOf u9).toNat)
 case atStart=>exact .inl ⟨rfl,rfl,rfl,rfl,hm⟩
 case round=>
  clear hm;rcases hrel with⟨rfl,rfl,rfl,rfl,hm⟩|⟨rfl,rfl,rfl,l',mm,z,hO,hm⟩
  .go_wp2_with(first
   |go_at_call 225;refine(Ahl 0 hm HK.o hx hg FP rfl (aa λW e l many h=>Aid gp h G5)).mono ?_;clear hm;rintro e w1⟨rfl,l1,H1,hk1,hG,hm⟩
   |go_at_call 228;refine(YR hm hk1 hx hg FP hG).mono ?_;clear hm hG;rintro e w1⟨rfl,l2,H2,mm,hk2,hlt,hso,hm⟩
   |refine U ?_;try(clear hm;intro w g hm))
   obtain⟨p,p1,p2,p3,p4,p5⟩:=S0 hx hlt hso;have HP5:=aa p5;have HP4:=aa p4;have HP3:=aa p3;have HLT:=aa hlt;clear p3 p4 p5 hlt hso hk1
   go_loopw[8,14,15,49] (λu8 u14 u15 u49 wr=>∃(i v8 v14:Nat)(l':ac)(z:Int),i<=tn+1/\u49=.int .i64 i/\u15=.int .i64 i/\u8=.int .i64 v8/\u14=.int .i64 v14/\((i<=p/\v8=0/\v14=i)\/(p<i/\v8=p/\v14+1=i))/\BK L x ta ra N l' H2/\(∀j,j<v14->gi l' (ca+j)=gi (cF x).1 j)/\Own w0 wr (bkR gs ga gx ta tn ra rn live peak mm l' (bxR gl gp gs g7 g6 g5 ta tn ca ra rn z rs)) ss) (λ_ _ _ u49 _=>tn+1-(intOf u49).toNat)
   case atStart=>exact⟨0,0,0,l2,_,FP,rfl,rfl,rfl,rfl,.inl ⟨FP,rfl,rfl⟩,hk2,λj h=>FP,hm⟩
   case round=>
    clear hm hk2;obtain⟨i,v8,v14,l',z,hi,rfl,rfl,rfl,rfl,hv,hk,hc,hm⟩:=hrel;have hlen:=hk.len;rcases bF i (tn+1)with hlt|hge
    .have hKi:=HLT.o i hlt;by_cases hip:i=p
     .subst hip;obtain⟨rfl,rfl⟩:0=v8/\i=v14:=FP
      have HC:=aa hc;clear hc hv;have q1:((H2 i:Int)==0)=true:=by rw[p2];rfl
      go_wp2_with(first
      |go_at_call 229;refine MP (kv i FP mm hm hk hg FP) ?_;clear hm;intro w1 hm
      |refine U ?_;try(clear hm;intro w g hm))
      go_roundw
      case rel=>exact⟨i+1,i,i,l',_,FP,by go_num,by go_num,rfl,rfl,.inr ⟨FP,rfl,rfl⟩,hk,HC.o,hm⟩
      case measure=>simp[intOf];omega
     .have hK1:=HP3.o i FP hip;have hb1:=wB hk.byt (ta+(H2 i-1));rw[hk.txt _ FP]at hb1;have hvt:v14<tn:=FP
      have hk3:=hk.put (i:=ca+v14) hb1 FP FP FP
      have hcol:gi x (H2 i-1)=gi (cF x).1 v14:=by
       rw[HP5.o v14 hvt];rcases hv with⟨h,_,rfl⟩|⟨h,_,h'⟩
       .rw[aQ FP]
       .rw[aP FP,h']
      have hc3:∀j,j<v14+1->gi (l'.set (ca+v14) (gi x (H2 i-1))) (ca+j)=gi (cF x).1 j:=λj hj=>by
       rw[ol FP];by_cases e:j=v14
       .subst e;rw[aQ rfl];exact hcol
       .rw[aP FP];exact hc j FP
      have q1:((H2 i:Int)==0)=false:=by simpa using (show¬(H2 i:Int)=0 by omega)
      have CY:Hid (∀W z,Own w0 W (bkR gs ga gx ta tn ra rn live peak mm l' (bxR gl gp gs g7 g6 g5 ta tn ca ra rn z rs)) ss->ak 116 #[ga,.agg (SP ta tn),.int .i64 ((H2 i:Int)-1)] W (RO (.tuple #[.int .u8 (gi x (H2 i-1)),.bool true]) w0 (bkR gs ga gx ta tn ra rn live peak mm l' (bxR gl gp gs g7 g6 g5 ta tn ca ra rn z rs)) ss)):=λW z h=>by
       rw[show((H2 i:Int)-1)=((H2 i-1:Nat):Int) by omega,<-hk.txt _ FP];exact(k8 ga ta tn (H2 i-1) l' live peak (h.row 1 rfl) (h.row 2 rfl) FP FP FP FP).mono λe w' h'=>⟨h'.1,h.call h'.2⟩
      have CS:Hid (∀W z,Own w0 W (bkR gs ga gx ta tn ra rn live peak mm l' (bxR gl gp gs g7 g6 g5 ta tn ca ra rn z rs)) ss->ak 189 #[ga,.agg (SP ca tn),.int .i64 v14,.int .u8 (gi x (H2 i-1))] W (RO (.bool true) w0 (bkR gs ga gx ta tn ra rn live peak mm (l'.set (ca+v14) (gi x (H2 i-1))) (bxR gl gp gs g7 g6 g5 ta tn ca ra rn z rs)) ss)):=λW z h=>(sM ca v14 l' _ live peak 1 2 h rfl rfl FP FP FP FP).mono λe w' h'=>⟨h'.1,by rw[bkR,cO];exact h'.2⟩;have HC:=aa hc3;have HK3:=aa hk3;clear hc hcol hc3 hk3 hb1
      go_wp2_with(first
      |go_at_call 229;refine MP (kv i FP mm hm hk hg FP) ?_;clear hm;intro w1 hm
      |go_at_call 116;refine MP (CY.o _ _ hm) ?_;clear hm;intro w1 hm
      |go_at_call 189;refine MP (CS.o _ _ hm) ?_;clear hm;intro w1 hm
      |refine U ?_;try(clear hm;intro w g hm))
      go_roundw
      case rel=>exact⟨i+1,v8,v14+1,_,_,FP,by go_num,by go_num,rfl,by go_num,FP,HK3.o,HC.o,hm⟩
      case measure=>simp[intOf];omega
    .obtain rfl:i=tn+1:=FP
     obtain⟨rfl,rfl⟩:p=v8/\tn=v14:=FP
     have hO:zJ L x ca l':=⟨hlen,hk.byt,λj hj=>hc j FP⟩;have HO:=aa hO;clear hO hc hk;go_wp2;go_roundw
     case rel=>exact .inr ⟨by rw[HP4.o],rfl,by go_num,l',mm,z,HO.o,hm⟩
     case measure=>simp[intOf]
  .have HO:=aa hO;clear hO
   go_wp2_with(refine U ?_;try(clear hm;intro w g hm))
   refine aD (fO rfl _ _ _) rfl ?_;exact⟨_,l',rfl,HO.o,Own.drop2 (X:=[_,_,_,_,_]) hm.dropRow⟩
end
open Go Go.RowKit
section
variable{col l l2 m:ac}{a b i n p q:Nat}
def Jp(l:ac)(a n:Nat):ac:=seg l a (a+n)
def mh(h:a+n<=l.length)(hi:i<n):gi (Jp l a n) i=gi l (a+i):=by
 simp only[Jp,seg,gi,List.getD];rw[qB,nH FP]
def fX(h:a+n<=l.length):(Jp l a n).length=n:=by simp[Jp,seg];omega
def kA(hb:Bytes l):Bytes (Jp l a n):=λx hx=>hb x (jB (iw hx))
def zt(hl:l.length=m.length)(h:a+n<=l.length)(he:∀i,a<=i->i<a+n->gi l i=gi m i):Jp l a n=Jp m a n:=by
 apply qA (by rw[fX h,fX FP]);intro i h1 h2;rw[fX h]at h1;rw[<-BZ _ i h2,<-BZ _ i (by rw[fX h];exact h1),mh h h1,mh FP h1];exact he _ FP FP
structure Marks(col:ac)(l l2:ac)(b d q p:Nat):Prop where
 len:l2.length=l.length
 byt:Bytes l2
 out:∀i,i<b->gi l2 i=gi l i
 word:∀j c,c<256->(j<q\/j=q/\c<p)->w32 l2 (b+4*(256*j+c)) 4=eqn (col.take ((j+1)*d)) c
def Marks.set{d:Nat}(h:Marks col l l2 b d q p)(hp:p<256)(hf:b+4*(256*q+p)+4<=l.length){v:Int}(hv:v=eqn (col.take ((q+1)*d)) p)(v1:v<4294967296):Marks col l (bo l2 (b+4*(256*q+p)) v 4) b d q (p+1):=by
 have hl:=h.len;refine⟨by rw[Xd,hl],V8 h.byt 4,λi hi=>?_,λj c hc hjc=>?_⟩
 .rw[ND _ _ _ _ 4 FP,aP FP,h.out i hi]
 .by_cases e:j=q/\c=p
  .obtain⟨rfl,rfl⟩:=e;rw[yX FP (by rw[hv];exact(Fz _ _).1) v1,hv]
  .rw[aF FP FP];exact h.word j c hc FP
def Marks.up{d:Nat}(h:Marks col l l2 b d q 256):Marks col l l2 b d (q+1) 0:=
 ⟨h.len,h.byt,h.out,λj c hc hjc=>h.word j c hc FP⟩
def Marks.zero(col l:ac)(hb:Bytes l)(b d:Nat):Marks col l l b d 0 0:=⟨rfl,hb,λ_ _=>rfl,λj c _ h=>FP⟩
end
def Zl{P:O8}{w:FC}{o:Oz}{a:OA}{x y:O7}(hu:P.underlying 3=some (.int .i64))(ho:o.op=.binOp .mul 3 x y 3){u v z:Int}(hx:a.eval x=.int .i64 u)(hy:a.eval y=.int .i64 v)(hw:IntKind.i64.wrap (u*v)=z):(execOp a.eval o).run P w=.ok (.value (.int .i64 z)) w:=by
 unfold execOp;simp[ho,hx,hy,eqGuard,binOp,Op.intArith,Result.andThen,hw]
def TE{ga gd a n b m d:Nat}{l:ac}{live peak:Int}{w0 w:FC}(rs:ae){ss:O1}(hm:Own w0 w ((ga,AR (.slice gd l.length l.length) live peak)::(gd,B l)::rs) ss)(hb:Bytes l)(h:nC live a n b m d)(h2:live<=l.length)(h3:l.length<=1048576):ak 69 #[ga,.agg (SP a n),.agg (SP b m),.int .i64 d] w λe w'=>(e=.returned (.int .i64 0))/\∃l2,Marks (Jp l a n) l l2 b d (n/d) 0/\Own w0 w' ((ga,AR (.slice gd l.length l.length) live peak)::(gd,B l2)::rs) ss:=by
 have CV:Hid (∀W,AA W ga (AR (.slice gd l.length l.length) live peak)->ak 118 #[ga,.agg (SP a n),.agg (SP b m),.int .i64 d] W (RB W (.bool true))):=λW hr=>lD h hr;obtain⟨n1,n2,d1,d2,ap,fit,big,lim⟩:=h;have hcl:(Jp l a n).length=n:=fX FP;obtain⟨col,hcol⟩:∃col,col=Jp l a n:=⟨_,rfl⟩;have hcb:Bytes col:=by rw[hcol];exact kA hb
 rw[<-hcol]at hcl⊢;obtain⟨q,hq⟩:∃q:Nat,q=n/d:=⟨_,rfl⟩;rw[<-hq]at big⊢;obtain⟨t,ht⟩:∃t:Nat,t=q*d:=⟨_,rfl⟩;have htn:t<=n:=by rw[ht,hq];exact Nat.div_mul_le_self n d
 have e1:(n:Int).tdiv d=(q:Int):=by rw[hq];rfl
 have e2:(n:Int)/d=(q:Int):=by rw[hq];rfl
 have hqn:q<=n:=by rw[hq];exact xO n d
 have q0:((d:Int)==0)=false:=by simp;omega
 have q0b:(d:Int)≠0:=FP
 have w1:IntKind.i64.wrap (q:Int)=(q:Int):=av;have HW2:Hid (IntKind.i64.wrap ((q:Int)*(d:Int))=(t:Int)):=aa Lp;have HT:=aa ht;clear ht;have HCOL:=aa hcol;have HQ:=aa hq;have HCB:=aa hcb;have HL:=aa hcl;clear hcol hcb hq hcl;go_enter func69,ntmps69
 go_wp2_with(first
 |go_at_call 118;refine cB (CV.o _ (hm.row 2 rfl)) hm ?_;clear hm;intro w1 hm
 |(with_reducible refine wb hm ?_;clear hm;first|(have _t:=g1;intro w g2 hm)|intro w g1 hm)
 |with_reducible refine wa 115 hm rx ?_;clear hm;intro w g9 hm
 |with_reducible refine jz ?_;(refine A8 rfl (Zl underlying3 rfl rfl rfl HW2.o) ?_)
 |with_reducible (first|refine wl 3 0 hm ?_ (hv:=Gm)|refine wl 3 1 hm ?_ (hv:=Gm)|refine wl 3 2 hm ?_ (hv:=Gm))
 |with_reducible (first|refine aM 50 0 hm ?_ (ht:=al Eo)|refine aM 50 1 hm ?_ (ht:=al Eo)|refine aM 50 2 hm ?_ (ht:=al Eo)))
 have hm0:Own w0 w ((g9,J .i64 (tab 256 (eqn (col.take 0))))::(g2,SP b m)::(g1,SP a n)::(ga,AR (.slice gd l.length l.length) live peak)::(gd,B l)::rs) ss:=by
  rw[Gi (f:=eqn (col.take 0)) (g:=λ_=>0) (λi _=>by simp[eqn])];exact hm
 clear hm;have hm:=hm0;clear hm0;have hz:=Marks.zero col l hb b d;clear hb
 go_loopw[28] (λu wr=>∃(k:Nat)(l2:ac),k<=t/\u=.int .i64 k/\Marks col l l2 b d (k/d) 0/\Own w0 wr ((g9,J .i64 (tab 256 (eqn (col.take k))))::(g2,SP b m)::(g1,SP a n)::(ga,AR (.slice gd l.length l.length) live peak)::(gd,B l2)::rs) ss) (λu _=>t-(intOf u).toNat)
 case atStart=>exact⟨0,l,FP,rfl,by rw[Nat.zero_div];exact hz,hm⟩
 case round=>
  clear hm hz;obtain⟨k,l2,hk,rfl,hM,hm⟩:=hrel;by_cases hlt:k<t
  .have hkn:k<n:=FP
   have hl2:=hM.len;have hcg:gi l2 (a+k)=gi col k:=by rw[HCOL.o,mh FP hkn,hM.out _ FP]
   have hs:=HCB.o (gi col k) (by rw[BZ col k (by rw[HL.o];exact hkn)];exact dF _);obtain⟨c,hc⟩:=dB hs.1;have hc1:c<256:=FP
   have CB:Hid (∀W,AA W ga (AR (.slice gd l.length l.length) live peak)->AA W gd (B l2)->ak 116 #[ga,.agg (SP a n),.int .i64 k] W (RB W (.tuple #[.int .u8 c,.bool true]))):=λW h3 h4=>by
    have:=k8 ga a n k l2 live peak (by rw[hl2];exact h3) h4 FP FP FP hkn;rwa[hcg,hc]at this
   have hbd:=Fz (col.take k) c;have hlt2:=lC k col;rw[HL.o]at hlt2;have w3:IntKind.i64.wrap (eqn (col.take k) c+1)=eqn (col.take k) c+1:=av;have HG:=aa (PU .i64 (eqn (col.take k)) hc1)
   have HP:=aa (kH .i64 (n:=256) (eqn (col.take k)) (eqn (col.take (k+1))) c (eqn (col.take k) c+1) (λj _=>by
    rw[Jm col k (by rw[HL.o];exact hkn),hc];by_cases e:j=c
    .subst e;simp
    .rw[aP e,aP FP,jf]))
   have HSZ:Hid (c<(J .i64 (tab 256 (eqn (col.take k)))).size):=aa Jg;have HM:=aa hM
   have hbd2:∀j,0<=eqn (col.take (k+1)) j/\eqn (col.take (k+1)) j<4294967296:=λj=>by
    have h5:=Fz (col.take (k+1)) j;have h6:=lC (k+1) col;rw[HL.o]at h6;omega
   have HBD:=aa hbd2;have HAG:=aa (ya (eqn (col.take (k+1))));have HAT:Hid (∀p,p<256->(J .i64 (tab 256 (eqn (col.take (k+1)))))[p]?=some (.int .i64 (eqn (col.take (k+1)) p))):=λp hp=>PU .i64 _ hp;obtain⟨r,hr⟩:∃r:Nat,r=(k+1)%d:=⟨_,rfl⟩;have e6:((k:Int)+1)%(d:Int)=(r:Int):=by rw[hr];push_cast;rfl
   have e7:((k:Int)+1).tmod (d:Int)=(r:Int):=by rw[hr];rfl
   have w4:IntKind.i64.wrap (r:Int)=(r:Int):=aZ _ (by have:=sD (k+1) (show 0<d by omega);omega);clear hs hc hbd hlt2 hcg hM hbd2;generalize eqn (col.take k) c=y at*;generalize hT1:tab 256 (eqn (col.take k))=T1 at*;generalize hT2:tab 256 (eqn (col.take (k+1)))=T2 at*;by_cases hr0:r=0
   .have hr1:((r:Int) !=0)=false:=by simp;omega
    have hr2:((r:Int)==0)=true:=by simp;omega
    obtain⟨q',hq'⟩:∃q':Nat,q'=k/d:=⟨_,rfl⟩;have hq1:(k+1)/d=q'+1:=by rw[Nat.succ_div,aQ (Nat.dvd_of_mod_eq_zero (by rw[<-hr,hr0])),hq']
    have hqd:(q'+1)*d=k+1:=by rw[<-hq1];exact Nat.div_mul_cancel (Nat.dvd_of_mod_eq_zero (by rw[<-hr,hr0]))
    have hqq:q'<q:=by
     have h8:(q'+1)*d<=q*d:=by rw[hqd,<-HT.o];exact hlt
     have h9:=Nat.le_of_mul_le_mul_right h8 FP;omega
    have e8:((k:Int)+1)/(d:Int)=(q':Int)+1:=by rw[show((k:Int)+1)/(d:Int)=(((k+1)/d:Nat):Int) by push_cast;rfl,hq1];push_cast;rfl
    have e9:((k:Int)+1).tdiv (d:Int)=(q':Int)+1:=by rw[show((k:Int)+1).tdiv (d:Int)=(((k+1)/d:Nat):Int) by rfl,hq1];push_cast;rfl
    have w5:IntKind.i64.wrap ((q':Int)+1)=(q':Int)+1:=av;have w6:IntKind.i64.wrap ((q':Int)+1-1)=(q':Int):=by rw[aZ _ FP];omega
    have w7:IntKind.i64.wrap ((q':Int)*256)=(q':Int)*256:=av;have hMq:=HM.o;rw[<-hq']at hMq
    have CS:Hid (∀(W:FC)(l3:ac)(p:Nat),p<256->l3.length=l.length->Own w0 W ((g9,J .i64 T2)::(g2,SP b m)::(g1,SP a n)::(ga,AR (.slice gd l.length l.length) live peak)::(gd,B l3)::rs) ss->ak 68 #[ga,.agg (SP b m),.int .i64 ((q':Int)*256+p),.int .u32 (eqn (col.take (k+1)) p)] W (RO (.bool true) w0 ((g9,J .i64 T2)::(g2,SP b m)::(g1,SP a n)::(ga,AR (.slice gd l.length l.length) live peak)::(gd,B (bo l3 (b+4*(256*q'+p)) (eqn (col.take (k+1)) p) 4))::rs) ss)):=λW l3 p hp hl3 hW=>by
     have hx:=ud ga gd b m (256*q'+p) l3 (eqn (col.take (k+1)) p) live peak 3 4 hW (by rw[hl3];rfl) rfl FP FP FP FP (HBD.o p).1 (HBD.o p).2 FU;rw[show(((256*q'+p:Nat)):Int)=(q':Int)*256+p by push_cast;omega]at hx;exact hx
    have HQD:=aa hqd;have HQ1:=aa hq1;clear hr hr0 hq1 hq' hqd
    go_wp2_with(first
     |go_at_call 116;refine cB (CB.o _ (hm.row 3 rfl) (hm.row 4 rfl)) hm ?_;clear hm;intro w1 hm
     |(with_reducible first|refine wl 3 0 hm ?_ (hv:=al HG.o)|refine aM 115 0 hm ?_ (ht:=al HAG.o)|refine aM 50 2 hm ?_ (ht:=al Eo)|refine wc 3 0 hm ?_ (hf:=al HSZ.o) (hn:=al HP.o);clear hm;intro w hm))
    go_loopw[55] (λu wr=>∃(p:Nat)(l3:ac),p<=256/\u=.int .i64 p/\Marks col l l3 b d q' p/\Own w0 wr ((g9,J .i64 T2)::(g2,SP b m)::(g1,SP a n)::(ga,AR (.slice gd l.length l.length) live peak)::(gd,B l3)::rs) ss) (λu _=>256-(intOf u).toNat)
    case atStart=>exact⟨0,l2,FP,rfl,hMq,hm⟩
    case round=>
     clear hm hMq;obtain⟨p,l3,hp,rfl,hM3,hm⟩:=hrel;by_cases hlt3:p<256
     .have hat:=HAT.o p hlt3;have hl3:=hM3.len;have hbp:=HBD.o p;have w8:IntKind.u32.wrap (eqn (col.take (k+1)) p)=eqn (col.take (k+1)) p:=jO _ FP;have w9:IntKind.i64.wrap ((q':Int)*256+p)=(q':Int)*256+p:=av;have HM4:Hid (Marks col l (bo l3 (b+4*(256*q'+p)) (eqn (col.take (k+1)) p) 4) b d q' (p+1)):=aa (hM3.set hlt3 FP (by rw[HQD.o]) hbp.2);clear hM3 hbp
      go_wp2_with(first
       |go_at_call 68;refine MP (CS.o _ l3 p hlt3 hl3 hm) ?_;clear hm;intro w hm
       |with_reducible refine qS ?_;(refine A8 rfl (DZ rfl rfl rfl underlying115 DR hlt3 hat) ?_)
       |with_reducible refine aM 50 1 hm ?_ (ht:=al Eo))
      go_roundw
      case rel=>exact⟨p+1,_,FP,by go_num,HM4.o,hm⟩
      case measure=>simp[intOf];omega
     .obtain rfl:p=256:=FP
      have HM4:=aa hM3.up;clear hM3;go_wp2;go_roundw
      case rel=>exact⟨k+1,l3,FP,by go_num,by rw[HQ1.o];exact HM4.o,by rw[hT2];exact hm⟩
      case measure=>simp[intOf];omega
   .have hr1:((r:Int) !=0)=true:=by simp;omega
    have hr2:((r:Int)==0)=false:=by simp;omega
    have HD2:Hid ((k+1)/d=k/d):=aa (by rw[Nat.succ_div,aP (λh=>hr0 (by rw[hr];exact Nat.mod_eq_zero_of_dvd h)),mW]);clear hr
    go_wp2_with(first
     |go_at_call 116;refine cB (CB.o _ (hm.row 3 rfl) (hm.row 4 rfl)) hm ?_;clear hm;intro w1 hm
     |(with_reducible first|refine wl 3 0 hm ?_ (hv:=al HG.o)|refine aM 115 0 hm ?_ (ht:=al HAG.o)|refine aM 50 2 hm ?_ (ht:=al Eo)|refine wc 3 0 hm ?_ (hf:=al HSZ.o) (hn:=al HP.o);clear hm;intro w hm))
    go_roundw
    case rel=>exact⟨k+1,l2,FP,by go_num,by rw[HD2.o];exact HM.o,by rw[hT2];exact hm⟩
    case measure=>simp[intOf];omega
  .obtain rfl:t=k:=FP
   have htq:t/d=q:=by rw[HT.o];exact Nat.mul_div_cancel q FP
   rw[htq]at hM;have HM:=aa hM;clear hM htq;generalize tab 256 (eqn (col.take t))=T1 at*;go_wp2;go_ret;exact⟨rfl,l2,HM.o,hm.dropRow.dropRow.dropRow⟩
structure wD(l:ac)(a n b d:Nat):Prop where
 byt:Bytes l
 word:∀j c,c<256->j<n/d->w32 l (b+4*(256*j+c)) 4=eqn ((Jp l a n).take ((j+1)*d)) c
def Marks.U8{l l2:ac}{a n b d:Nat}(h:Marks (Jp l a n) l l2 b d (n/d) 0)(hf:a+n<=l.length)(hb:a+n<=b):wD l2 a n b d/\Jp l2 a n=Jp l a n:=by
 have he:Jp l2 a n=Jp l a n:=zt h.len (by rw[h.len];exact hf) (λi _ h2=>h.out i FP);exact⟨⟨h.byt,λj c hc hj=>by rw[he];exact h.word j c hc (.inl hj)⟩,he⟩
def sN{ga gd a n b m d c:Nat}(place:Nat){l:ac}{live peak:Int}{w0:FC}(hr:AA w0 ga (AR (.slice gd l.length l.length) live peak))(hd:AA w0 gd (B l))(hS:wD l a n b d)(h:nC live a n b m d)(h2:live<=l.length)(h3:l.length<=1048576)(hc:c<256)(hp:place<=n):ak 70 #[ga,.agg (SP a n),.agg (SP b m),.int .i64 d,.int .u8 c,.int .i64 place] w0 (RB w0 (.tuple #[.int .i64 (eqn ((Jp l a n).take place) c),.int .i64 ((place%d:Nat):Int),.bool true])):=by
 have CV:Hid (∀W,Below w0.heap.size w0 W->ak 118 #[ga,.agg (SP a n),.agg (SP b m),.int .i64 d] W (RB W (.bool true))):=λW hW=>lD h (hr.keep W hW);obtain⟨n1,n2,d1,d2,ap,fit,big,lim⟩:=h;have HL:Hid ((Jp l a n).length=n):=aa (fX FP);have HCG:Hid (∀i,i<n->gi (Jp l a n) i=gi l (a+i)):=λi hi=>mh FP hi;have HBY:=aa hS.byt;obtain⟨q,hq⟩:∃q:Nat,q=place/d:=⟨_,rfl⟩;obtain⟨t,ht⟩:∃t:Nat,t=q*d:=⟨_,rfl⟩;have htp:t<=place:=by rw[ht,hq];exact Nat.div_mul_le_self place d
 have hr0:place%d=place-t:=by rw[ht,hq];have:=Nat.div_add_mod place d;rw[sO]at this;omega
 have e1:(place:Int).tdiv d=(q:Int):=by rw[hq];rfl
 have e2:(place:Int)/d=(q:Int):=by rw[hq];rfl
 have hqn:q<=place:=by rw[hq];exact xO place d
 have hqd:q<=n/d:=by rw[hq];exact EG hp
 have CW:Hid (∀W,Below w0.heap.size w0 W->0<q->ak 120 #[ga,.agg (SP b m),.int .i64 (((q:Int)-1)*256+c)] W (RB W (.tuple #[.int .u32 (eqn ((Jp l a n).take t) c),.bool true]))):=λW hW hq0=>by
  have hx:=dW b m (256*(q-1)+c) (hr.keep W hW) (hd.keep W hW) hS.byt FP h2 h3 FP;rw[hS.word (q-1) c hc FP,show q-1+1=q by omega,<-ht]at hx;rw[show((q:Int)-1)*256+c=((256*(q-1)+c:Nat):Int) by omega];exact hx
 have CB:Hid (∀W(i:Nat),Below w0.heap.size w0 W->i<n->ak 116 #[ga,.agg (SP a n),.int .i64 i] W (RB W (.tuple #[.int .u8 (gi (Jp l a n) i),.bool true]))):=λW i hW hi=>by
  have:=k8 ga a n i l live peak (hr.keep W hW) (hd.keep W hW) FP h2 h3 hi;rwa[<-HCG.o i hi]at this
 have q0:((d:Int)==0)=false:=by simp;omega
 have q0b:(d:Int)≠0:=FP
 have w1:IntKind.i64.wrap (q:Int)=(q:Int):=av;have HW2:Hid (IntKind.i64.wrap ((q:Int)*(d:Int))=(t:Int)):=aa Lp;have w3:wi place 0 n=true:=Eu FP FP;have HR0:=aa hr0;have HT0:Hid (q=0->t=0):=aa (λh=>by rw[ht,h,qj]);clear hr hd hS hq ht hr0 hqd big HCG;generalize Jp l a n=col at*;by_cases hq0:q=0
 .subst hq0;have HT1:Hid (t=0):=aa (HT0.o rfl);clear HT0;go_enter func70,ntmps70;have hm:=Own.nil w0
  go_wp2_with(first
  |go_at_call 118;refine cB (CV.o _ hm.below) hm ?_;clear hm;intro w1 hm
  |go_at_call 119;refine MW QK ?_
  |(with_reducible refine wb hm ?_;clear hm;first|(have _t:=g1;intro w g2 hm)|intro w g1 hm)
  |with_reducible refine jz ?_;(refine A8 rfl (Zl underlying3 rfl rfl rfl HW2.o) ?_)
  |with_reducible (first|refine wl 3 0 hm ?_ (hv:=Gm)|refine wl 3 1 hm ?_ (hv:=Gm))
  |with_reducible (first|refine aM 50 0 hm ?_ (ht:=al Eo)|refine aM 50 1 hm ?_ (ht:=al Eo)))
  go_loopw[12,13,18] (λz y u wr=>∃i:Nat,t<=i/\i<=place/\u=.int .i64 i/\z=.int .i64 (eqn (col.take i) c)/\y=.int .i64 ((i-t:Nat):Int)/\Own w0 wr [(g2,SP b m),(g1,SP a n)] []) (λ_ _ u _=>place-(intOf u).toNat)
  case atStart=>exact⟨t,aX _,htp,rfl,by rw[HT1.o];simp[eqn],by rw[iV];rfl,hm⟩
  case round=>
   exact D3
 .have hqp:0<q:=FP
  have p0:decide ((0:Int)<(q:Int))=true:=az;have p00:decide (0<q)=true:=aW hqp;have w6:IntKind.i64.wrap ((q:Int)-1)=(q:Int)-1:=av;have w7:IntKind.i64.wrap (((q:Int)-1)*256)=((q:Int)-1)*256:=av;have w8:IntKind.i64.wrap (((q:Int)-1)*256+c)=((q:Int)-1)*256+c:=av;have w9:IntKind.i64.wrap (c:Int)=c:=av;have CW1:Hid (∀W,Below w0.heap.size w0 W->ak 120 #[ga,.agg (SP b m),.int .i64 (((q:Int)-1)*256+c)] W (RB W (.tuple #[.int .u32 (eqn (col.take t) c),.bool true]))):=λW h=>CW.o W h hqp;have hbd:=Fz (col.take t) c;have hlt2:=lC t col;rw[HL.o]at hlt2
  have w10:IntKind.i64.wrap (eqn (col.take t) c)=eqn (col.take t) c:=av;have HZ:Hid (eqn (col.take t) c=eqn (col.take t) c):=aa rfl;clear hbd hlt2;go_enter func70,ntmps70;have hm:=Own.nil w0
  go_wp2_with(first
   |go_at_call 118;refine cB (CV.o _ hm.below) hm ?_;clear hm;intro w1 hm
   |go_at_call 120;refine cB (CW1.o _ hm.below) hm ?_;clear hm;intro w1 hm
   |go_at_call 119;refine MW QK ?_
   |(with_reducible refine wb hm ?_;clear hm;first|(have _t:=g1;intro w g2 hm)|intro w g1 hm)
   |with_reducible refine jz ?_;(refine A8 rfl (Zl underlying3 rfl rfl rfl HW2.o) ?_)
   |with_reducible (first|refine wl 3 0 hm ?_ (hv:=Gm)|refine wl 3 1 hm ?_ (hv:=Gm))
   |with_reducible (first|refine aM 50 0 hm ?_ (ht:=al Eo)|refine aM 50 1 hm ?_ (ht:=al Eo)))
  go_loopw[12,13,18] (λz y u wr=>∃i:Nat,t<=i/\i<=place/\u=.int .i64 i/\z=.int .i64 (eqn (col.take i) c)/\y=.int .i64 ((i-t:Nat):Int)/\Own w0 wr [(g2,SP b m),(g1,SP a n)] []) (λ_ _ u _=>place-(intOf u).toNat)
  case atStart=>exact⟨t,aX _,htp,rfl,rfl,by rw[iV];rfl,hm⟩
  case round=>
   exact D3
section
variable{ds la ln mb mn x:Int}{less:ac}{i:Nat}{pa:NY}
def WK(pa:NY)(la:Int)(ln:Int)(mb:Int)(mn:Int)(ix:Int)(ds:Int)(less:ac)(row:Int)(told:Int)(st:Int):ai:=([pa,Value.int .i64 la,.int .i64 ln,Value.int .i64 mb,.int .i64 mn,Value.int .i64 ix,.int .i64 ds]++(vs .i64 less++([Value.int .i64 row,.int .i64 told,.int .i64 st]))).toArray
def pS{ix:Int}{row:Int}{told:Int}{st:Int}(hless:less.length=256):(WK pa la ln mb mn ix ds less row told st).size=266:=by simp[WK,Ai,hless]
def W9{ix:Int}{row:Int}{told:Int}{st:Int}(x:NY):(WK pa la ln mb mn ix ds less row told st).setIfInBounds 0 x=WK x la ln mb mn ix ds less row told st:=rfl
def Sa{ix:Int}{row:Int}{told:Int}{st:Int}:(WK pa la ln mb mn ix ds less row told st)[2]?=some (Value.int .i64 ln):=rfl
def A64{ix:Int}{row:Int}{told:Int}{st:Int}(x:Int):(WK pa la ln mb mn ix ds less row told st).setIfInBounds 5 (Value.int .i64 x)=WK pa la ln mb mn x ds less row told st:=rfl
def Xa{ix:Int}{row:Int}{told:Int}{st:Int}(x:Int):(WK pa la ln mb mn ix ds less row told st).setIfInBounds 6 (Value.int .i64 x)=WK pa la ln mb mn ix x less row told st:=rfl
def Ss{ix:Int}{row:Int}{told:Int}{st:Int}(hless:less.length=256)(i:Nat)(hi:i<256):(WK pa la ln mb mn ix ds less row told st)[7+i]?=some (.int .i64 (gi less i)):=by
 rw[show WK pa la ln mb mn ix ds less row told st=(([pa,Value.int .i64 la,.int .i64 ln,Value.int .i64 mb,.int .i64 mn,Value.int .i64 ix,.int .i64 ds])++((vs .i64 less)++([Value.int .i64 row,.int .i64 told,.int .i64 st]))).toArray by simp[WK,aI]];have h:=UL (P:=([pa,Value.int .i64 la,.int .i64 ln,Value.int .i64 mb,.int .i64 mn,Value.int .i64 ix,.int .i64 ds])) (off:=7) (S:=([Value.int .i64 row,.int .i64 told,.int .i64 st])) (by simp[Ai]) (Fg .i64 less i FP);exact h
def XE{ix:Int}{row:Int}{told:Int}{st:Int}(hless:less.length=256)(hi:i<256):(WK pa la ln mb mn ix ds less row told st).setIfInBounds (7+i) (.int .i64 x)=WK pa la ln mb mn ix ds (less.set i x) row told st:=by
 rw[show WK pa la ln mb mn ix ds less row told st=(([pa,Value.int .i64 la,.int .i64 ln,Value.int .i64 mb,.int .i64 mn,Value.int .i64 ix,.int .i64 ds])++((vs .i64 less)++([Value.int .i64 row,.int .i64 told,.int .i64 st]))).toArray by simp[WK,aI]];have h:=Y1 (P:=([pa,Value.int .i64 la,.int .i64 ln,Value.int .i64 mb,.int .i64 mn,Value.int .i64 ix,.int .i64 ds])) (off:=7) (S:=([Value.int .i64 row,.int .i64 told,.int .i64 st])) (by simp[Ai]) (show i<(vs .i64 less).length by rw[Ai];omega) (.int .i64 x);rw[aK]at h
 skip
 rw[h];simp[WK,aI]
def VV{ix:Int}{row:Int}{told:Int}{st:Int}(hless:less.length=256):(WK pa la ln mb mn ix ds less row told st)[263]?=some (Value.int .i64 row):=by
 rw[show WK pa la ln mb mn ix ds less row told st=(([pa,Value.int .i64 la,.int .i64 ln,Value.int .i64 mb,.int .i64 mn,Value.int .i64 ix,.int .i64 ds]++vs .i64 less)++(([Value.int .i64 row,.int .i64 told,.int .i64 st])++[])).toArray by simp[WK,aI]];exact UL (P:=([pa,Value.int .i64 la,.int .i64 ln,Value.int .i64 mb,.int .i64 mn,Value.int .i64 ix,.int .i64 ds]++vs .i64 less)) (off:=263) (i:=0) (S:=[]) IC rfl
def GM{ix:Int}{row:Int}{told:Int}{st:Int}(hless:less.length=256):(WK pa la ln mb mn ix ds less row told st).setIfInBounds 263 (Value.int .i64 x)=WK pa la ln mb mn ix ds less x told st:=by
 rw[show WK pa la ln mb mn ix ds less row told st=(([pa,Value.int .i64 la,.int .i64 ln,Value.int .i64 mb,.int .i64 mn,Value.int .i64 ix,.int .i64 ds]++vs .i64 less)++(([Value.int .i64 row,.int .i64 told,.int .i64 st])++[])).toArray by simp[WK,aI]];have h:=Y1 (P:=([pa,Value.int .i64 la,.int .i64 ln,Value.int .i64 mb,.int .i64 mn,Value.int .i64 ix,.int .i64 ds]++vs .i64 less)) (off:=263) (i:=0) (S:=[]) IC (show 0<([Value.int .i64 row,.int .i64 told,.int .i64 st]).length by simp) (Value.int .i64 x);rw[h];simp[WK,aI]
def P1{ix:Int}{row:Int}{told:Int}{st:Int}(hless:less.length=256):263<(WK pa la ln mb mn ix ds less row told st).size:=by rw[pS hless];omega
def DP{ix:Int}{row:Int}{told:Int}{st:Int}(hless:less.length=256):(WK pa la ln mb mn ix ds less row told st)[264]?=some (Value.int .i64 told):=by
 rw[show WK pa la ln mb mn ix ds less row told st=(([pa,Value.int .i64 la,.int .i64 ln,Value.int .i64 mb,.int .i64 mn,Value.int .i64 ix,.int .i64 ds]++vs .i64 less)++(([Value.int .i64 row,.int .i64 told,.int .i64 st])++[])).toArray by simp[WK,aI]];exact UL (P:=([pa,Value.int .i64 la,.int .i64 ln,Value.int .i64 mb,.int .i64 mn,Value.int .i64 ix,.int .i64 ds]++vs .i64 less)) (off:=263) (i:=1) (S:=[]) IC rfl
def G1{ix:Int}{row:Int}{told:Int}{st:Int}(hless:less.length=256):(WK pa la ln mb mn ix ds less row told st).setIfInBounds 264 (Value.int .i64 x)=WK pa la ln mb mn ix ds less row x st:=by
 rw[show WK pa la ln mb mn ix ds less row told st=(([pa,Value.int .i64 la,.int .i64 ln,Value.int .i64 mb,.int .i64 mn,Value.int .i64 ix,.int .i64 ds]++vs .i64 less)++(([Value.int .i64 row,.int .i64 told,.int .i64 st])++[])).toArray by simp[WK,aI]];have h:=Y1 (P:=([pa,Value.int .i64 la,.int .i64 ln,Value.int .i64 mb,.int .i64 mn,Value.int .i64 ix,.int .i64 ds]++vs .i64 less)) (off:=263) (i:=1) (S:=[]) IC (show 1<([Value.int .i64 row,.int .i64 told,.int .i64 st]).length by simp) (Value.int .i64 x);rw[h];simp[WK,aI]
def IM{ix:Int}{row:Int}{told:Int}{st:Int}(hless:less.length=256):264<(WK pa la ln mb mn ix ds less row told st).size:=by rw[pS hless];omega
def Eg{ix:Int}{row:Int}{told:Int}{st:Int}(hless:less.length=256):(WK pa la ln mb mn ix ds less row told st)[265]?=some (Value.int .i64 st):=by
 rw[show WK pa la ln mb mn ix ds less row told st=(([pa,Value.int .i64 la,.int .i64 ln,Value.int .i64 mb,.int .i64 mn,Value.int .i64 ix,.int .i64 ds]++vs .i64 less)++(([Value.int .i64 row,.int .i64 told,.int .i64 st])++[])).toArray by simp[WK,aI]];exact UL (P:=([pa,Value.int .i64 la,.int .i64 ln,Value.int .i64 mb,.int .i64 mn,Value.int .i64 ix,.int .i64 ds]++vs .i64 less)) (off:=263) (i:=2) (S:=[]) IC rfl
def Is{ix:Int}{row:Int}{told:Int}{st:Int}(hless:less.length=256):(WK pa la ln mb mn ix ds less row told st).setIfInBounds 265 (Value.int .i64 x)=WK pa la ln mb mn ix ds less row told x:=by
 rw[show WK pa la ln mb mn ix ds less row told st=(([pa,Value.int .i64 la,.int .i64 ln,Value.int .i64 mb,.int .i64 mn,Value.int .i64 ix,.int .i64 ds]++vs .i64 less)++(([Value.int .i64 row,.int .i64 told,.int .i64 st])++[])).toArray by simp[WK,aI]];have h:=Y1 (P:=([pa,Value.int .i64 la,.int .i64 ln,Value.int .i64 mb,.int .i64 mn,Value.int .i64 ix,.int .i64 ds]++vs .i64 less)) (off:=263) (i:=2) (S:=[]) IC (show 2<([Value.int .i64 row,.int .i64 told,.int .i64 st]).length by simp) (Value.int .i64 x);rw[h];simp[WK,aI]
def Ct{ix:Int}{row:Int}{told:Int}{st:Int}(hless:less.length=256):265<(WK pa la ln mb mn ix ds less row told st).size:=by rw[pS hless];omega
end
section
variable{live peak:Int}{l:ac}{ss:O1}{a b ga gd gw index m n r:Nat}{rs:ae}{w w0:FC}
structure j7(l:ac)(live:Int)(a n b m d index:Nat):Prop where
 rk:nC live a n b m d
 sm:wD l a n b d
 lim:live<=l.length
 big:l.length<=1048576
 i1:1<=index
 i2:index<=n
abbrev cP(ga:Nat)(l:ac)(a n b m d index:Nat)(row told st:Int):ai:=WK (.pointer (some ⟨ga,0,none⟩)) a n b m index d (tab 256 (aT (Jp l a n))) row told st
def ZG{d:Nat}{row told st:Int}(hm:Own w0 w ((gw,cP ga l a n b m d index row told st)::(ga,AR (.slice gd l.length l.length) live peak)::(gd,B l)::rs) ss)(h:j7 l live a n b m d index)(hr:r<=n)(s0:0<=st)(s1:st<=1000000000000000)(he:r=index):ak 74 #[gw,.int .i64 r] w (RO (.tuple #[.int .i64 0,.int .u8 0,.bool false]) w0 ((gw,cP ga l a n b m d index row told st)::(ga,AR (.slice gd l.length l.length) live peak)::(gd,B l)::rs) ss):=by
 obtain⟨hk,hS,lim,big,i1,i2⟩:=h;have hn2:=hk.n2;subst he;clear hk hS lim big i1 i2 hr s0 s1;rw[cP]at hm;go_enter func74,ntmps74
 go_wp2_with(refine UV ?_;try(clear hm;intro w gp hm))
 refine aD (fO rfl _ _ _) rfl ⟨rfl,?_⟩;exact hm
def Sg{d:Nat}{row told st:Int}(hm:Own w0 w ((gw,cP ga l a n b m d index row told st)::(ga,AR (.slice gd l.length l.length) live peak)::(gd,B l)::rs) ss)(h:j7 l live a n b m d index)(hr:r<=n)(s0:0<=st)(s1:st<=1000000000000000)(p:Nat)(hp:p=r)(hlt:r<index):ak 74 #[gw,.int .i64 r] w (RO (.tuple #[.int .i64 (bc (Jp l a n) p),.int .u8 (gi (Jp l a n) p),.bool true]) w0 ((gw,cP ga l a n b m d index row told (st+(1+((p%d:Nat):Int))))::(ga,AR (.slice gd l.length l.length) live peak)::(gd,B l)::rs) ss):=by
 obtain⟨hk,hS,lim,big,i1,i2⟩:=h;have hn2:=hk.n2;have hal:a+n<=l.length:=by have:=hk.ap;have:=hk.fit;omega
 have hal2:(a:Int)+n<=live:=by have:=hk.ap;have:=hk.fit;omega
 have hcl:(Jp l a n).length=n:=fX hal;have hcb:Bytes (Jp l a n):=kA hS.byt;have hs:=hcb (gi (Jp l a n) p) LY;obtain⟨c,hc⟩:=dB hs.1;have hc1:c<256:=FP
 have CB:Hid (∀W,AA W ga (AR (.slice gd l.length l.length) live peak)->AA W gd (B l)->ak 116 #[ga,.agg (SP a n),.int .i64 p] W (RB W (.tuple #[.int .u8 c,.bool true]))):=λW h3 h4=>by have:=k8 ga a n p l live peak h3 h4 hal2 lim big FP;rwa[<-mh hal FP,hc]at this
 have CR:Hid (∀W,AA W ga (AR (.slice gd l.length l.length) live peak)->AA W gd (B l)->ak 70 #[ga,.agg (SP a n),.agg (SP b m),.int .i64 d,.int .u8 c,.int .i64 p] W (RB W (.tuple #[.int .i64 (eqn ((Jp l a n).take p) c),.int .i64 ((p%d:Nat):Int),.bool true]))):=λW h3 h4=>sN p h3 h4 hS hk lim big hc1 FP;have HAF:Hid (bc (Jp l a n) p=1+aT (Jp l a n) c+eqn ((Jp l a n).take p) c):=aa (by rw[bc,hc,gB]);have b1:=Ll (Jp l a n) c;have b2:=Fz ((Jp l a n).take p) c;have b3:=lC p (Jp l a n);have b4:=sD p (show 0<d by have:=hk.d1;omega);have b5:=hk.d2;have w1:IntKind.i64.wrap (1+aT (Jp l a n) c)=1+aT (Jp l a n) c:=av
 have w2:IntKind.i64.wrap (1+aT (Jp l a n) c+eqn ((Jp l a n).take p) c)=1+aT (Jp l a n) c+eqn ((Jp l a n).take p) c:=av;have HAT:=aa (PU .i64 (aT (Jp l a n)) hc1);have hll:(tab 256 (aT (Jp l a n))).length=256:=Lm;have HLL:=aa hll;rw[hc,HAF.o];clear hcb hs hc hcl hll i1 b1 b2 b3 HAF;subst hp;have q1:((p:Int)==index)=false:=by simp;omega
 have q2:decide ((index:Int)<p)=false:=an;have q3:decide (index<p)=false:=an;exact No
def A50{d:Nat}{row told st:Int}(hm:Own w0 w ((gw,cP ga l a n b m d index row told st)::(ga,AR (.slice gd l.length l.length) live peak)::(gd,B l)::rs) ss)(h:j7 l live a n b m d index)(hr:r<=n)(s0:0<=st)(s1:st<=1000000000000000)(p:Nat)(hp:r=p+1)(hlt:index<r):ak 74 #[gw,.int .i64 r] w (RO (.tuple #[.int .i64 (bc (Jp l a n) p),.int .u8 (gi (Jp l a n) p),.bool true]) w0 ((gw,cP ga l a n b m d index row told (st+(1+((p%d:Nat):Int))))::(ga,AR (.slice gd l.length l.length) live peak)::(gd,B l)::rs) ss):=by
 obtain⟨hk,hS,lim,big,i1,i2⟩:=h;have hn2:=hk.n2;have hal:a+n<=l.length:=by have:=hk.ap;have:=hk.fit;omega
 have hal2:(a:Int)+n<=live:=by have:=hk.ap;have:=hk.fit;omega
 have hcl:(Jp l a n).length=n:=fX hal;have hcb:Bytes (Jp l a n):=kA hS.byt;have hs:=hcb (gi (Jp l a n) p) LY;obtain⟨c,hc⟩:=dB hs.1;have hc1:c<256:=FP
 have CB:Hid (∀W,AA W ga (AR (.slice gd l.length l.length) live peak)->AA W gd (B l)->ak 116 #[ga,.agg (SP a n),.int .i64 p] W (RB W (.tuple #[.int .u8 c,.bool true]))):=λW h3 h4=>by have:=k8 ga a n p l live peak h3 h4 hal2 lim big FP;rwa[<-mh hal FP,hc]at this
 have CR:Hid (∀W,AA W ga (AR (.slice gd l.length l.length) live peak)->AA W gd (B l)->ak 70 #[ga,.agg (SP a n),.agg (SP b m),.int .i64 d,.int .u8 c,.int .i64 p] W (RB W (.tuple #[.int .i64 (eqn ((Jp l a n).take p) c),.int .i64 ((p%d:Nat):Int),.bool true]))):=λW h3 h4=>sN p h3 h4 hS hk lim big hc1 FP;have HAF:Hid (bc (Jp l a n) p=1+aT (Jp l a n) c+eqn ((Jp l a n).take p) c):=aa (by rw[bc,hc,gB]);have b1:=Ll (Jp l a n) c;have b2:=Fz ((Jp l a n).take p) c;have b3:=lC p (Jp l a n);have b4:=sD p (show 0<d by have:=hk.d1;omega);have b5:=hk.d2;have w1:IntKind.i64.wrap (1+aT (Jp l a n) c)=1+aT (Jp l a n) c:=av
 have w2:IntKind.i64.wrap (1+aT (Jp l a n) c+eqn ((Jp l a n).take p) c)=1+aT (Jp l a n) c+eqn ((Jp l a n).take p) c:=av;have HAT:=aa (PU .i64 (aT (Jp l a n)) hc1);have hll:(tab 256 (aT (Jp l a n))).length=256:=Lm;have HLL:=aa hll;rw[hc,HAF.o];clear hcb hs hc hcl hll i1 b1 b2 b3 HAF;subst hp;have q1:(((p+1:Nat):Int)==index)=false:=by simp;omega
 have q1b:((p:Int)+1==index)=false:=by simp;omega
 have q2:decide ((index:Int)<((p+1:Nat):Int))=true:=az;have q2b:decide ((index:Int)<(p:Int)+1)=true:=az;have q3:decide (index<p+1)=true:=aW hlt;have w0b:IntKind.i64.wrap ((p:Int)+1-1)=p:=by rw[aZ _ FP];omega
 exact No
def M9{d:Nat}{row told st:Int}(hm:Own w0 w ((gw,cP ga l a n b m d index row told st)::(ga,AR (.slice gd l.length l.length) live peak)::(gd,B l)::rs) ss)(h:j7 l live a n b m d index)(hr:r<=n)(s0:0<=st)(s1:st<=1000000000000000):ak 74 #[gw,.int .i64 r] w λe w'=>if r=index then(e=.returned (.tuple #[.int .i64 0,.int .u8 0,.bool false]))/\Own w0 w' ((gw,cP ga l a n b m d index row told st)::(ga,AR (.slice gd l.length l.length) live peak)::(gd,B l)::rs) ss else(e=.returned (.tuple #[.int .i64 (bc (Jp l a n) (Iw index r)),.int .u8 (gi (Jp l a n) (Iw index r)),.bool true]))/\Own w0 w' ((gw,cP ga l a n b m d index row told (st+(1+((Iw index r%d:Nat):Int))))::(ga,AR (.slice gd l.length l.length) live peak)::(gd,B l)::rs) ss:=by
 by_cases he:r=index
 .simp only[aQ he];exact ZG hm h hr s0 s1 he
 .simp only[aP he];by_cases hl:index<r
  .have hc:Iw index r=r-1:=by rw[Iw,aQ hl]
   rw[hc];exact A50 hm h hr s0 s1 (r-1) FP hl
  .have hc:Iw index r=r:=by rw[Iw,aP hl]
   rw[hc];exact Sg hm h hr s0 s1 r rfl FP
end
def sR{l:ac}(hb:Bytes l)(k:Nat)(h:k<l.length):((bc l k).toNat:Int)=bc l k/\(bc l k).toNat<=l.length:=by
 have:=oI hb k h;omega
def cD(l:ac)(index:Nat):Nat->Nat->Bool
|0,r=>decide (r=index)
|k+1,r=>if r=index then false else cD l index k (bc l (Iw index r)).toNat
def wst(l:ac)(index d:Nat):Nat->Nat->Int
|0,_=>0
|k+1,r=>if r=index then 0 else 1+((Iw index r%d:Nat):Int)+wst l index d k (bc l (Iw index r)).toNat
def ZZ{gw ga gd:Nat}(a n:Nat){b m:Nat}(d index:Nat){l:ac}(row told st:Int){live peak:Int}{w0 w:FC}{rs:ae}{ss:O1}(hm:Own w0 w ((gw,cP ga l a n b m d index row told st)::(ga,AR (.slice gd l.length l.length) live peak)::(gd,B l)::rs) ss)(h:j7 l live a n b m d index)(s0:0<=st)(s1:st<=100000000000000):ak 29 #[gw] w (RO (.bool (cD (Jp l a n) index n 0)) w0 ((gw,cP ga l a n b m d index row told (st+wst (Jp l a n) index d n 0))::(ga,AR (.slice gd l.length l.length) live peak)::(gd,B l)::rs) ss):=by
 have hk:=h.rk;have hal:a+n<=l.length:=by have:=hk.ap;have:=hk.fit;have:=h.lim;omega
 have HCL:=aa (fX hal);have HCB:=aa (kA (a:=a) (n:=n) h.sm.byt);have hn2:=hk.n2;have hd2:=hk.d2;have hd1:=hk.d1;have i1:=h.i1;have i2:=h.i2
 have CBH:Hid (∀W(r:Nat)(st':Int),Own w0 W ((gw,cP ga l a n b m d index row told st')::(ga,AR (.slice gd l.length l.length) live peak)::(gd,B l)::rs) ss->r<=n->0<=st'->st'<=1000000000000000->ak 74 #[gw,.int .i64 r] W λe w'=>if r=index then(e=.returned (.tuple #[.int .i64 0,.int .u8 0,.bool false]))/\Own w0 w' ((gw,cP ga l a n b m d index row told st')::(ga,AR (.slice gd l.length l.length) live peak)::(gd,B l)::rs) ss else(e=.returned (.tuple #[.int .i64 (bc (Jp l a n) (Iw index r)),.int .u8 (gi (Jp l a n) (Iw index r)),.bool true]))/\Own w0 w' ((gw,cP ga l a n b m d index row told (st'+(1+((Iw index r%d:Nat):Int))))::(ga,AR (.slice gd l.length l.length) live peak)::(gd,B l)::rs) ss):=λW r st' hW hr h0 h1=>M9 hW h hr h0 h1
 obtain⟨bv,hbv⟩:∃bv,bv=cD (Jp l a n) index n 0:=⟨_,rfl⟩;obtain⟨sv,hsv⟩:∃sv,sv=wst (Jp l a n) index d n 0:=⟨_,rfl⟩;rw[<-hbv,<-hsv];have HBV:=aa hbv;have HSV:=aa hsv;clear hbv hsv h hk hal;go_enter func29,ntmps29
 go_wp2_with(refine UV ?_;try(clear hm;intro w gp hm))
 go_loopw[3,17] (λz u wr=>∃(j r:Nat)(s1:Int),j<=n/\r<=n/\u=.int .i64 j/\z=.int .i64 r/\0<=s1/\s1<=j*65537/\bv=cD (Jp l a n) index (n-j) r/\sv=s1+wst (Jp l a n) index d (n-j) r/\Own w0 wr ((gw,cP ga l a n b m d index row told (st+s1))::(ga,AR (.slice gd l.length l.length) live peak)::(gd,B l)::rs) ss) (λ_ u _=>n-(intOf u).toNat)
 case atStart=>exact⟨0,0,0,FP,FP,rfl,rfl,FP,FP,HBV.o,by rw[Int.zero_add];exact HSV.o,by rw[jf];exact hm⟩
 case round=>
  clear hm;obtain⟨j,r,s1,hj,hr,rfl,rfl,s10,s11,hb,hs,hm⟩:=hrel;by_cases hlt:j<n
  .obtain⟨i,hi⟩:∃i,n-j=i+1:=⟨n-j-1,FP⟩;rw[hi,cD]at hb;rw[hi,wst]at hs;have CB:=aa (λW hW=>CBH.o W r (st+s1) hW hr FP FP);by_cases he:r=index
   .simp only[aQ he]at CB;rw[aQ he]at hb hs;rw[jf]at hs;subst hb hs;clear he
    go_wp2_with(first
    |go_at_call 74;refine MP (CB.o _ hm) ?_;clear hm;intro w hm
    |refine UV ?_;try(clear hm;intro w gp hm))
    exact gR
   .simp only[aP he]at CB;rw[aP he]at hb hs;have hpl:Iw index r<n:=lA i1 i2 hr he;obtain⟨e1,e2⟩:=sR HCB.o (Iw index r) Jk;rw[HCL.o]at e2;rw[<-e1]at CB;have hmod:=sD (Iw index r) (show 0<d by omega);have HB2:=aa hb;have HS2:=aa hs;clear hb hs he e1;generalize (bc (Jp l a n) (Iw index r)).toNat=r2 at*;generalize gi (Jp l a n) (Iw index r)=c at*;generalize Iw index r%d=m2 at*
    go_wp2_with(first
    |go_at_call 74;refine MP (CB.o _ hm) ?_;clear hm;intro w hm
    |refine UV ?_;try(clear hm;intro w gp hm))
    go_roundw
    case rel=>exact⟨j+1,r2,s1+(1+(m2:Int)),FP,e2,by go_num,rfl,FP,by push_cast;omega,by rw[show n-(j+1)=i by omega];exact HB2.o,by rw[HS2.o,show n-(j+1)=i by omega];omega,by rw[show st+(s1+(1+(m2:Int)))=st+s1+(1+(m2:Int)) by omega];exact hm⟩
    case measure=>simp[intOf];omega
  .obtain rfl:n=j:=FP
   rw[iV,cD]at hb;rw[iV,wst,jf]at hs;subst hb hs
   have q1:((r:Int)==index)=decide (r=index):=by
    by_cases h:r=index
    .simp[h]
    .rw[aU h];simp;omega
   generalize hbb:decide (r=index)=bb at*;have HBB:=aa hbb;clear hbb
   go_wp2_with(first
   |go_at_call 74;refine MP (CB.o _ hm) ?_;clear hm;intro w hm
   |refine UV ?_;try(clear hm;intro w gp hm))
   go_ret;exact⟨by first|rfl|(rw[HBB.o];rfl),hm⟩
section
variable{ds la live ln mb mn peak:Int}{l:ac}{ss:O1}{b ga gd gw m:Nat}{rs:ae}{pa:NY}{w w0:FC}
def A54{ix:Int}{f:Nat->Int}{row told st:Int}(hm:Own w0 w ((gw,WK pa la ln mb mn ix ds (tab 256 f) row told st)::rs) ss):ak 316 #[gw] w (RW w (.int .i64 told)):=by
 go_enter func316,ntmps316
 exact po
def Wo{ix:Int}{f:Nat->Int}{row told st:Int}(hm:Own w0 w ((gw,WK pa la ln mb mn ix ds (tab 256 f) row told st)::rs) ss):ak 315 #[gw] w (RW w (.int .i64 st)):=by
 go_enter func315,ntmps315
 exact po
def A4C{ix:Int}{f:Nat->Int}{row told st:Int}(hm:Own w0 w ((gw,WK pa la ln mb mn ix ds (tab 256 f) row told st)::rs) ss):ak 314 #[gw] w (RO (.tuple #[]) w0 ((gw,WK pa la ln mb mn ix ds (tab 256 f) 0 0 st)::rs) ss):=by
 go_enter func314,ntmps314
 go_wp2_with(first
  |with_reducible refine bE (t:=3) ?_;(refine Ad rfl (AZ 0 hm rfl rfl UU rfl (ot rfl) (by first|exact(P1 Lm)|exact(IM Lm)) rfl rfl (by first|exact(GM Lm)|exact(G1 Lm)) ?_);clear hm;intro w hm;try simp only[puts,s2,List.set]at hm))
 go_end0
 exact⟨rfl,hm⟩
def A55(a n:Nat)(d index:Nat)(row told st:Int)(hm:Own w0 w ((gw,cP ga l a n b m d index row told st)::(ga,AR (.slice gd l.length l.length) live peak)::(gd,B l)::rs) ss)(h:j7 l live a n b m d index)(s0:0<=st)(s1:st<=100000000000000)(ht:told=n):ak 31 #[gw] w (RO (.tuple #[.int .u8 0,.bool false]) w0 ((gw,cP ga l a n b m d index row told st)::(ga,AR (.slice gd l.length l.length) live peak)::(gd,B l)::rs) ss):=by
 subst ht;clear h s0 s1;rw[cP]at hm;go_enter func31,ntmps31
 exact rh
def A5I(a n:Nat)(d index:Nat)(r k:Nat)(st:Int)(hm:Own w0 w ((gw,cP ga l a n b m d index r k st)::(ga,AR (.slice gd l.length l.length) live peak)::(gd,B l)::rs) ss)(h:j7 l live a n b m d index)(s0:0<=st)(s1:st<=100000000000000)(hr:r<=n)(hk:k<n)(he:r≠index):ak 31 #[gw] w (RO (.tuple #[.int .u8 (gi (Jp l a n) (Iw index r)),.bool true]) w0 ((gw,cP ga l a n b m d index (bc (Jp l a n) (Iw index r)) (k+1) (st+(1+((Iw index r%d:Nat):Int))))::(ga,AR (.slice gd l.length l.length) live peak)::(gd,B l)::rs) ss):=by
 have CB:Hid (∀W,Own w0 W ((gw,cP ga l a n b m d index r k st)::(ga,AR (.slice gd l.length l.length) live peak)::(gd,B l)::rs) ss->ak 74 #[gw,.int .i64 r] W λe w'=>if r=index then(e=.returned (.tuple #[.int .i64 0,.int .u8 0,.bool false]))/\Own w0 w' ((gw,cP ga l a n b m d index r k st)::(ga,AR (.slice gd l.length l.length) live peak)::(gd,B l)::rs) ss else(e=.returned (.tuple #[.int .i64 (bc (Jp l a n) (Iw index r)),.int .u8 (gi (Jp l a n) (Iw index r)),.bool true]))/\Own w0 w' ((gw,cP ga l a n b m d index r k (st+(1+((Iw index r%d:Nat):Int))))::(ga,AR (.slice gd l.length l.length) live peak)::(gd,B l)::rs) ss):=λW hW=>M9 hW h hr s0 FP;have hn2:=h.rk.n2;have q1:((k:Int)==n)=false:=by simp;omega
 have w1:IntKind.i64.wrap ((k:Int)+1)=(k:Int)+1:=av;simp only[aP he]at CB;clear h s0 s1 he hr;generalize bc (Jp l a n) (Iw index r)=r2 at*;obtain⟨q,hq⟩:∃q:Nat,q=Iw index r%d:=⟨_,rfl⟩;rw[<-hq]at CB⊢;generalize gi (Jp l a n) (Iw index r)=c at*;clear hq;go_enter func31,ntmps31
 go_upto_region 1 with fail
 refine rO hm 14 (.am [(0,false),(1,false),(2,false),(3,false),(4,false),(5,false),(6,true),(7,false),(8,false),(9,false),(10,false),(11,true),(12,false),(13,false)] .done) ?_;clear hm;intro w hm;simp only[KT.am]
 iterate 3 refine kq ?_
 (first|refine kq ?_|refine Bz rfl rfl ?_)
 try simp only[Act.put,s3]
 (first|refine kq ?_|refine Bz rfl rfl ?_)
 try simp only[Act.put,s3]
 (first|refine kq ?_|refine Bz rfl rfl ?_)
 try simp only[Act.put,s3]
 (first|refine eO rfl rfl (λW hm=>ld 0 hm rfl rfl rfl (ot rfl) (DP Lm)) ?_|refine D6 rfl rfl ?_)
 try simp only[Act.put,s3]
 (first|refine kq ?_|refine Bz rfl rfl ?_)
 try simp only[Act.put,s3]
 (first|refine kq ?_|refine Bz rfl rfl ?_)
 try simp only[Act.put,s3]
 (first|refine kq ?_|refine Bz rfl rfl ?_)
 try simp only[Act.put,s3]
 (first|refine kq ?_|refine Bz rfl rfl ?_)
 try simp only[Act.put,s3]
 (first|refine eO rfl rfl (λW hm=>ld 0 hm rfl rfl rfl (ot rfl) Sa) ?_|refine D6 rfl rfl ?_)
 try simp only[Act.put,s3]
 (first|refine kq ?_|refine Bz rfl rfl ?_)
 try simp only[Act.put,s3]
 refine kq ?_;refine Ba ?_;go_simp
 go_wp2_with(first
  |go_at_call 74;refine MP (CB.o _ hm) ?_;clear hm;intro w hm
  |with_reducible refine wl 3 0 hm ?_ (hv:=(by with_unfolding_all (first|exact(VV Lm)|exact(DP Lm))))
  |with_reducible refine wc 3 0 hm ?_ (hf:=(by with_unfolding_all (first|exact(P1 Lm)|exact(IM Lm)))) (hn:=(by with_unfolding_all (first|exact(GM Lm)|exact(G1 Lm))));clear hm;intro w hm)
 go_ret2
 exact⟨rfl,hm⟩
end
section
variable{a:OA}{ds la live ln mb mn peak:Int}{l:ac}{ss:O1}{b ga gd index m n:Nat}{p q r s t:O9}{o:Oz}{u x y z:O7}{rs:ae}{w w0:FC}
def NB(w:FC):(zeroValue 121).run prog w=.ok (.agg (WK (.pointer none) 0 0 0 0 0 0 (tab 256 λ_=>0) 0 0 0)) w:=FZ
def Tl{v:O7}(ho:o.op=.build 121 #[(0,x),(1,y),(2,z),(3,u),(4,v)]){p:NY}{ix:Int}(hx:a.eval x=p)(hp:p.cells=#[p])(hy:a.eval y=.agg (SP la ln))(hz:a.eval z=.agg (SP mb mn))(hu:a.eval u=.int .i64 ix)(hv:a.eval v=.int .i64 ds):
  (execOp a.eval o).run prog w=.ok (.value (.agg (WK p la ln mb mn ix ds (tab 256 λ_=>0) 0 0 0))) w:=by
 refine Dq ho ?_;rw[VT (places:=[(0,1),(1,2),(3,2),(5,1),(6,1),(7,256),(263,1),(264,1),(265,1)]) FZ FZ NB FZ w];simp only[cM,bT,bZ,hx,hy,hz,hu,hv];have hl:(tab 256 λ_=>0).length=256:=Lm;generalize (tab 256 λ_=>0)=less at*;rw[VG rfl hp J5 (W9 p)]
 rw[show SP la ln=([Value.int .i64 la,.int .i64 ln]:ar).toArray from rfl,Zj [Value.int .i64 la,.int .i64 ln] (n:=2) (ns:=WK p la ln 0 0 0 0 less 0 0 0) rfl rfl J5 (by
  show splice ([p]++([Value.int .i64 0,.int .i64 0]++([Value.int .i64 0,.int .i64 0,.int .i64 0,.int .i64 0]++(vs .i64 less++[Value.int .i64 0,.int .i64 0,.int .i64 0])))).toArray 1 _=_
  exact bn (off:=1) (P:=[p]) rfl rfl)]
 rw[show SP mb mn=([Value.int .i64 mb,.int .i64 mn]:ar).toArray from rfl,Zj [Value.int .i64 mb,.int .i64 mn] (n:=2) (ns:=WK p la ln mb mn 0 0 less 0 0 0) rfl rfl J5 (by
  show splice ([p,Value.int .i64 la,.int .i64 ln]++([Value.int .i64 0,.int .i64 0]++([Value.int .i64 0,.int .i64 0]++(vs .i64 less++[Value.int .i64 0,.int .i64 0,.int .i64 0])))).toArray 3 _=_
  exact bn (off:=3) (P:=[p,Value.int .i64 la,.int .i64 ln]) rfl rfl)]
 rw[VG rfl rfl J5 (A64 ix),VG rfl rfl J5 (Xa ds)];rfl
def Own.GO(h:Own w0 w (p::q::r::s::rs) ss):Own w0 w (r::s::p::q::rs) ss:=h.perm ((gK (l₁:=[r,s]) (l₂:=[p,q])).append_right rs)
def Own.YU(h:Own w0 w (t::p::q::r::s::rs) ss):Own w0 w (t::r::s::rs) ss:=h.sub (jw _ (qY _ (qY _ (aY _)))) (aY _)
def A5J(a:Nat){d:Nat}(hm:Own w0 w ((ga,AR (.slice gd l.length l.length) live peak)::(gd,B l)::rs) ss)(hb:Bytes l)(hk:nC live a n b m d)(lim:live<=l.length)(big:l.length<=1048576)(i1:1<=index)(i2:index<=n):ak 26 #[ga,.agg (SP a n),.int .i64 index,.agg (SP b m),.int .i64 d] w λe w'=>∃(gw:Nat)(l2:ac),(e=.returned (.tuple #[gw,.int .i64 0]))/\l2.length=l.length/\Jp l2 a n=Jp l a n/\(∀i,i<b->gi l2 i=gi l i)/\j7 l2 live a n b m d index/\Own w0 w' ((gw,cP ga l2 a n b m d index 0 0 0)::(ga,AR (.slice gd l2.length l2.length) live peak)::(gd,B l2)::rs) ss:=by
 have CM:Hid (∀W g1 g2,Own w0 W ((g2,SP b m)::(g1,SP a n)::(ga,AR (.slice gd l.length l.length) live peak)::(gd,B l)::rs) ss->ak 69 #[ga,.agg (SP a n),.agg (SP b m),.int .i64 d] W λe w'=>(e=.returned (.int .i64 0))/\∃l2,Marks (Jp l a n) l l2 b d (n/d) 0/\Own w0 w' ((g2,SP b m)::(g1,SP a n)::(ga,AR (.slice gd l.length l.length) live peak)::(gd,B l2)::rs) ss):=λW g1 g2 hW=>(TE ((g2,SP b m)::(g1,SP a n)::rs) hW.GO hb hk lim big).mono λe w' h=>by
  obtain⟨h1,l2,h2,h3⟩:=h;exact⟨h1,l2,h2,h3.GO⟩
 have hal:a+n<=l.length:=by have:=hk.ap;have:=hk.fit;omega
 have q1:decide ((index:Int)<1)=false:=an;have q2:decide ((n:Int)<index)=false:=an;have q3:decide (n<index)=false:=an;have HK:=aa hk;have ap:=hk.ap;have n2:=hk.n2;clear hk hb;go_enter func26,ntmps26
 go_wp2_with(first
 |(go_at_call 69;have _t:=hm;refine(CM.o _ _ _ hm).mono ?_;clear _t hm;rintro e w⟨rfl,l2,hM,hm⟩)
 |(with_reducible refine wb hm ?_;clear hm;first|(have _t:=g2;intro w gw hm)|(have _t:=g1;intro w g2 hm)|intro w g1 hm)
 |with_reducible refine cS ?_;(refine A8 rfl (Tl rfl rfl rfl rfl rfl rfl rfl) ?_)
 |with_reducible (first|refine wl 3 0 hm ?_ (hv:=Gm)|refine wl 3 1 hm ?_ (hv:=Gm))
 |with_reducible (first|refine aM 50 0 hm ?_ (ht:=al Eo)|refine aM 50 1 hm ?_ (ht:=al Eo)))
 obtain⟨hS,hcol⟩:=hM.U8 hal ap;have hl2:=hM.len;have hout:=hM.out;rw[<-hl2]at hm
 have CR:Hid (∀(W:FC)(k:Nat),AA W ga (AR (.slice gd l2.length l2.length) live peak)->AA W gd (B l2)->k<256->ak 70 #[ga,.agg (SP a n),.agg (SP b m),.int .i64 d,.int .u8 k,.int .i64 n] W (RB W (.tuple #[.int .i64 (eqn (Jp l2 a n) k),.int .i64 ((n%d:Nat):Int),.bool true]))):=λW k h3 h4 hk=>by
  have:=sN n h3 h4 hS HK.o FP FP hk (aX _);rwa[jC (by rw[fX FP];exact aX _)]at this
 have HCL:Hid ((Jp l2 a n).length=n):=aa (fX FP);have HCB:Hid (Bytes (Jp l2 a n)):=aa (kA hS.byt);have HP1:=aa (⟨hl2,hcol,hout,⟨HK.o,hS,FP,FP,i1,i2⟩⟩:l2.length=l.length/\Jp l2 a n=Jp l a n/\(∀i,i<b->gi l2 i=gi l i)/\j7 l2 live a n b m d index);have hm0:Own w0 w ((gw,WK (.pointer ga) a n b m index d (tab 256 (λj=>if j<0 then aT (Jp l2 a n) j else 0)) 0 0 0)::(g2,SP b m)::(g1,SP a n)::(ga,AR (.slice gd l2.length l2.length) live peak)::(gd,B l2)::rs) ss:=hm;clear hM hS hcol hout hl2 hm;have hm:=hm0;clear hm0
 go_loopw[14,42] (λz u wr=>∃k:Nat,k<=256/\u=.int .i64 k/\z=.int .i64 (aT (Jp l2 a n) k)/\Own w0 wr ((gw,WK (.pointer ga) a n b m index d (tab 256 (λj=>if j<k then aT (Jp l2 a n) j else 0)) 0 0 0)::(g2,SP b m)::(g1,SP a n)::(ga,AR (.slice gd l2.length l2.length) live peak)::(gd,B l2)::rs) ss) (λ_ u _=>256-(intOf u).toNat)
 case atStart=>exact⟨0,FP,rfl,by rw[uY HCB.o],hm⟩
 case round=>
  clear hm;obtain⟨k,hk,rfl,rfl,hm⟩:=hrel;by_cases hlt:k<256
  .have b1:=Ll (Jp l2 a n) k;have b2:=Fz (Jp l2 a n) k;rw[HCL.o]at b1 b2;have w1:IntKind.u8.wrap (k:Int)=k:=kM _ FP;have w3:IntKind.i64.wrap (aT (Jp l2 a n) k+eqn (Jp l2 a n) k)=aT (Jp l2 a n) k+eqn (Jp l2 a n) k:=av;have HE2:=aa (Mv (Jp l2 a n) k);have CR1:=aa (λW h3 h4=>CR.o W k h3 h4 hlt);have HL1:Hid ((tab 256 (λj=>if j<k then aT (Jp l2 a n) j else 0)).length=256):=aa Lm
   have HP:Hid ((tab 256 (λj=>if j<k then aT (Jp l2 a n) j else 0)).set k (aT (Jp l2 a n) k)=tab 256 (λj=>if j<k+1 then aT (Jp l2 a n) j else 0)):=aa (by
    rw[zQ];refine Gi λj _=>?_;by_cases e:j=k
    .subst e;rw[aQ rfl,aQ FP]
    .rw[aP e];by_cases h:j<k
     .rw[aQ h,aQ FP]
     .rw[aP h,aP FP])
   have HSZ:Hid (∀(x:ac),x.length=256->7+k<(WK (.pointer ga) a n b m index d x 0 0 0).size):=λx hx=>by rw[pS hx];omega
   clear b1 b2;generalize aT (Jp l2 a n) k=x at*;generalize eqn (Jp l2 a n) k=y at*;generalize hT1:tab 256 (λj=>if j<k then aT (Jp l2 a n) j else 0)=T1 at*;generalize hT2:tab 256 (λj=>if j<k+1 then aT (Jp l2 a n) j else 0)=T2 at*
   go_wp2_with(first
    |go_at_call 70;refine cB (CR1.o _ (hm.row 3 rfl) (hm.row 4 rfl)) hm ?_;clear hm;intro w1 hm
    |with_reducible (first|refine wl 3 1 hm ?_ (hv:=Gm)|refine wl 3 2 hm ?_ (hv:=Gm))
    |with_reducible (first|refine aM 50 1 hm ?_ (ht:=al Eo)|refine aM 50 2 hm ?_ (ht:=al Eo))
    |with_reducible refine wc 3 0 hm ?_ (hf:=al (HSZ.o _ HL1.o)) (hn:=al (XE HL1.o hlt));clear hm;intro w hm)
   rw[HP.o]at hm;exact NL
  .obtain rfl:k=256:=FP
   rw[Gi (f:=λj=>if j<256 then aT (Jp l2 a n) j else 0) (g:=aT (Jp l2 a n)) (λi hi=>by rw[aQ hi])]at hm;go_wp2
   go_ret2
   exact⟨gw,l2,rfl,HP1.o.1,HP1.o.2.1,HP1.o.2.2.1,HP1.o.2.2.2,hm.YU⟩
end
section
variable{la live ln peak:Int}{l:ac}{ss:O1}{a b ga gd gf index m n p r:Nat}{rs:ae}{pa:NY}{w w0:FC}
def FL(pa:NY)(la:Int)(ln:Int)(rb:Int)(rm:Int)(ix:Int)(row:Int)(told:Int)(st:Int):ai:=([pa,Value.int .i64 la,.int .i64 ln,Value.int .i64 rb,.int .i64 rm,Value.int .i64 ix,.int .i64 row,Value.int .i64 told,.int .i64 st]).toArray
def W7{rb:Int}{rm:Int}{ix:Int}{row:Int}{told:Int}{st:Int}:(FL pa la ln rb rm ix row told st).size=9:=by simp[FL,Ai]
def A6a{rb:Int}{rm:Int}{ix:Int}{row:Int}{told:Int}{st:Int}(x:NY):(FL pa la ln rb rm ix row told st).setIfInBounds 0 x=FL x la ln rb rm ix row told st:=rfl
def A6b{rb:Int}{rm:Int}{ix:Int}{row:Int}{told:Int}{st:Int}(x:Int):(FL pa la ln rb rm ix row told st).setIfInBounds 5 (Value.int .i64 x)=FL pa la ln rb rm x row told st:=rfl
abbrev ci(ga a n b m index:Nat)(row told st:Int):ai:=FL (.pointer (some ⟨ga,0,none⟩)) a n b m index row told st
structure fD(l:ac)(live:Int)(a n b m index:Nat):Prop where
 n1:1<=n
 n2:n<=65536
 ap:a+n<=b
 fit:(b:Int)+m<=live
 four:4*(n+1)<=m
 lim:live<=l.length
 big:l.length<=1048576
 i1:1<=index
 i2:index<=n
 byt:Bytes l
def PJ{row told st:Int}(hm:Own w0 w ((gf,ci ga a n b m index row told st)::(ga,AR (.slice gd l.length l.length) live peak)::(gd,B l)::rs) ss)(h:fD l live a n b m index)(hr:r<=n)(he:r=index):ak 67 #[gf,.int .i64 r] w (RO (.tuple #[.int .u8 0,.bool false]) w0 ((gf,ci ga a n b m index row told st)::(ga,AR (.slice gd l.length l.length) live peak)::(gd,B l)::rs) ss):=by
 subst he;clear h hr;go_enter func67,ntmps67
 exact rh
def RM{row told st:Int}(hm:Own w0 w ((gf,ci ga a n b m index row told st)::(ga,AR (.slice gd l.length l.length) live peak)::(gd,B l)::rs) ss)(h:fD l live a n b m index)(hr:r<=n)(hp:p=r)(hlt:r<index):ak 67 #[gf,.int .i64 r] w (RO (.tuple #[.int .u8 (gi (Jp l a n) p),.bool true]) w0 ((gf,ci ga a n b m index row told st)::(ga,AR (.slice gd l.length l.length) live peak)::(gd,B l)::rs) ss):=by
 obtain⟨n1,n2,ap,fit,four,lim,big,i1,i2,byt⟩:=h;have hal:a+n<=l.length:=FP
 have CB:Hid (∀W,AA W ga (AR (.slice gd l.length l.length) live peak)->AA W gd (B l)->ak 116 #[ga,.agg (SP a n),.int .i64 p] W (RB W (.tuple #[.int .u8 (gi (Jp l a n) p),.bool true]))):=λW h3 h4=>by have:=k8 ga a n p l live peak h3 h4 FP lim big FP;rwa[<-mh hal FP]at this
 generalize gi (Jp l a n) p=c at*;subst hp;have q1:((p:Int)==index)=false:=by simp;omega
 have q2:decide ((index:Int)<p)=false:=an;have q3:decide (index<p)=false:=an;exact JP
def Sm{row told st:Int}(hm:Own w0 w ((gf,ci ga a n b m index row told st)::(ga,AR (.slice gd l.length l.length) live peak)::(gd,B l)::rs) ss)(h:fD l live a n b m index)(hr:r<=n)(p:Nat)(hp:r=p+1)(hlt:index<r):ak 67 #[gf,.int .i64 r] w (RO (.tuple #[.int .u8 (gi (Jp l a n) p),.bool true]) w0 ((gf,ci ga a n b m index row told st)::(ga,AR (.slice gd l.length l.length) live peak)::(gd,B l)::rs) ss):=by
 obtain⟨n1,n2,ap,fit,four,lim,big,i1,i2,byt⟩:=h;have hal:a+n<=l.length:=FP
 have CB:Hid (∀W,AA W ga (AR (.slice gd l.length l.length) live peak)->AA W gd (B l)->ak 116 #[ga,.agg (SP a n),.int .i64 p] W (RB W (.tuple #[.int .u8 (gi (Jp l a n) p),.bool true]))):=λW h3 h4=>by have:=k8 ga a n p l live peak h3 h4 FP lim big FP;rwa[<-mh hal FP]at this
 generalize gi (Jp l a n) p=c at*;subst hp;have q1:(((p+1:Nat):Int)==index)=false:=by simp;omega
 have q1b:((p:Int)+1==index)=false:=by simp;omega
 have q2:decide ((index:Int)<((p+1:Nat):Int))=true:=az;have q2b:decide ((index:Int)<(p:Int)+1)=true:=az;have q3:decide (index<p+1)=true:=aW hlt;have w0b:IntKind.i64.wrap ((p:Int)+1-1)=p:=by rw[aZ _ FP];omega
 exact JP
def y4(gf ga gd a n b m index:Nat)(l:ac)(row told st live peak:Int)(r:Nat)(w0 w:FC)(rs:ae)(ss:O1)(hm:Own w0 w ((gf,ci ga a n b m index row told st)::(ga,AR (.slice gd l.length l.length) live peak)::(gd,B l)::rs) ss)(h:fD l live a n b m index)(hr:r<=n):ak 67 #[gf,.int .i64 r] w (RO (if r=index then .tuple #[.int .u8 0,.bool false]else .tuple #[.int .u8 (gi (Jp l a n) (Iw index r)),.bool true]) w0 ((gf,ci ga a n b m index row told st)::(ga,AR (.slice gd l.length l.length) live peak)::(gd,B l)::rs) ss):=by
 by_cases he:r=index
 .simp only[aQ he];exact PJ hm h hr he
 .simp only[aP he];by_cases hl:index<r
  .have hc:Iw index r=r-1:=by rw[Iw,aQ hl]
   rw[hc];exact Sm hm h hr (r-1) FP hl
  .have hc:Iw index r=r:=by rw[Iw,aP hl]
   rw[hc];exact RM hm h hr rfl FP
def XV{row told st:Int}(hm:Own w0 w ((gf,ci ga a n b m index row told st)::(ga,AR (.slice gd l.length l.length) live peak)::(gd,B l)::rs) ss)(h:fD l live a n b m index)(hr:r<=n)(hw:w32 l (b+4*r) 4=rowsOf (Jp l a n) index r)(s0:0<=st)(s1:st<=1000000000000000)(he:r=index):ak 73 #[gf,.int .i64 r] w (RO (.tuple #[.int .i64 0,.int .u8 0,.bool false]) w0 ((gf,ci ga a n b m index row told st)::(ga,AR (.slice gd l.length l.length) live peak)::(gd,B l)::rs) ss):=by
 have CY:Hid (∀W,Own w0 W ((gf,ci ga a n b m index row told st)::(ga,AR (.slice gd l.length l.length) live peak)::(gd,B l)::rs) ss->ak 67 #[gf,.int .i64 r] W (RO (if r=index then .tuple #[.int .u8 0,.bool false]else .tuple #[.int .u8 (gi (Jp l a n) (Iw index r)),.bool true]) w0 ((gf,ci ga a n b m index row told st)::(ga,AR (.slice gd l.length l.length) live peak)::(gd,B l)::rs) ss)):=λW hW=>y4 gf ga gd a n b m index l row told st live peak r w0 W rs ss hW h hr
 have CW:Hid (∀W,AA W ga (AR (.slice gd l.length l.length) live peak)->AA W gd (B l)->ak 120 #[ga,.agg (SP b m),.int .i64 r] W (RB W (.tuple #[.int .u32 (rowsOf (Jp l a n) index r),.bool true]))):=λW h3 h4=>by have:=dW b m r h3 h4 h.byt h.fit h.lim h.big (by have:=h.four;omega);rwa[hw]at this
 rw[aQ he]at CY;rw[rowsOf,aQ he]at CW;clear h hr he hw s0 s1;exact AF
def SC{row told st:Int}(hm:Own w0 w ((gf,ci ga a n b m index row told st)::(ga,AR (.slice gd l.length l.length) live peak)::(gd,B l)::rs) ss)(h:fD l live a n b m index)(hr:r<=n)(hw:w32 l (b+4*r) 4=rowsOf (Jp l a n) index r)(s0:0<=st)(s1:st<=1000000000000000)(he:r≠index):ak 73 #[gf,.int .i64 r] w (RO (.tuple #[.int .i64 (bc (Jp l a n) (Iw index r)),.int .u8 (gi (Jp l a n) (Iw index r)),.bool true]) w0 ((gf,ci ga a n b m index row told (st+1))::(ga,AR (.slice gd l.length l.length) live peak)::(gd,B l)::rs) ss):=by
 have CY:Hid (∀W,Own w0 W ((gf,ci ga a n b m index row told st)::(ga,AR (.slice gd l.length l.length) live peak)::(gd,B l)::rs) ss->ak 67 #[gf,.int .i64 r] W (RO (if r=index then .tuple #[.int .u8 0,.bool false]else .tuple #[.int .u8 (gi (Jp l a n) (Iw index r)),.bool true]) w0 ((gf,ci ga a n b m index row told st)::(ga,AR (.slice gd l.length l.length) live peak)::(gd,B l)::rs) ss)):=λW hW=>y4 gf ga gd a n b m index l row told st live peak r w0 W rs ss hW h hr
 have CW:Hid (∀W,AA W ga (AR (.slice gd l.length l.length) live peak)->AA W gd (B l)->ak 120 #[ga,.agg (SP b m),.int .i64 r] W (RB W (.tuple #[.int .u32 (rowsOf (Jp l a n) index r),.bool true]))):=λW h3 h4=>by have:=dW b m r h3 h4 h.byt h.fit h.lim h.big (by have:=h.four;omega);rwa[hw]at this
 rw[aP he]at CY;rw[rowsOf,aP he]at CW;have hal:a+n<=l.length:=by have:=h.ap;have:=h.fit;have:=h.lim;omega
 have hcl:=fX hal;have hab:=oI (kA (a:=a) (n:=n) h.byt) (Iw index r) (by rw[hcl];exact lA h.i1 h.i2 hr he);have n2:=h.n2;rw[hcl]at hab;have w1:IntKind.i64.wrap (bc (Jp l a n) (Iw index r))=bc (Jp l a n) (Iw index r):=av;have w2:IntKind.i64.wrap (st+1)=st+1:=av;clear h hr he hw s0 s1 hab hal hcl;generalize bc (Jp l a n) (Iw index r)=r2 at*;generalize gi (Jp l a n) (Iw index r)=c at*;exact AF
end
section
variable{la live ln peak:Int}{l:ac}{ss:O1}{b ga gd gf m:Nat}{rs:ae}{pa:NY}{w w0:FC}
def ik(l:ac)(index:Nat):Nat->Nat->Int
|0,_=>0
|k+1,r=>if r=index then 0 else 1+ik l index k (bc l (Iw index r)).toNat
def A4x(a n:Nat)(index:Nat)(row told st:Int)(hm:Own w0 w ((gf,ci ga a n b m index row told st)::(ga,AR (.slice gd l.length l.length) live peak)::(gd,B l)::rs) ss)(h:fD l live a n b m index)(hw:∀r,r<=n->w32 l (b+4*r) 4=rowsOf (Jp l a n) index r)(s0:0<=st)(s1:st<=100000000000000):ak 28 #[gf] w (RO (.bool (cD (Jp l a n) index n 0)) w0 ((gf,ci ga a n b m index row told (st+ik (Jp l a n) index n 0))::(ga,AR (.slice gd l.length l.length) live peak)::(gd,B l)::rs) ss):=by
 have hal:a+n<=l.length:=by have:=h.ap;have:=h.fit;have:=h.lim;omega
 have HCL:=aa (fX hal);have HCB:=aa (kA (a:=a) (n:=n) h.byt);have hn2:=h.n2;have i1:=h.i1;have i2:=h.i2
 have CBH:Hid (∀W(r:Nat)(st':Int),Own w0 W ((gf,ci ga a n b m index row told st')::(ga,AR (.slice gd l.length l.length) live peak)::(gd,B l)::rs) ss->r<=n->0<=st'->st'<=1000000000000000->ak 73 #[gf,.int .i64 r] W λe w'=>if r=index then(e=.returned (.tuple #[.int .i64 0,.int .u8 0,.bool false]))/\Own w0 w' ((gf,ci ga a n b m index row told st')::(ga,AR (.slice gd l.length l.length) live peak)::(gd,B l)::rs) ss else(e=.returned (.tuple #[.int .i64 (bc (Jp l a n) (Iw index r)),.int .u8 (gi (Jp l a n) (Iw index r)),.bool true]))/\Own w0 w' ((gf,ci ga a n b m index row told (st'+1))::(ga,AR (.slice gd l.length l.length) live peak)::(gd,B l)::rs) ss):=λW r st' hW hr h0 h1=>by
  exact Ch
 obtain⟨bv,hbv⟩:∃bv,bv=cD (Jp l a n) index n 0:=⟨_,rfl⟩;obtain⟨sv,hsv⟩:∃sv,sv=ik (Jp l a n) index n 0:=⟨_,rfl⟩;rw[<-hbv,<-hsv];have HBV:=aa hbv;have HSV:=aa hsv;clear hbv hsv h hal hw;go_enter func28,ntmps28
 go_wp2_with(first
 |go_at_call 73;refine MP (CB.o _ hm) ?_;clear hm;intro w hm
 |refine UV ?_;try(clear hm;intro w gp hm))
 go_loopw[3,14] (λz u wr=>∃(j r:Nat)(s1:Int),j<=n/\r<=n/\u=.int .i64 j/\z=.int .i64 r/\0<=s1/\s1<=j/\bv=cD (Jp l a n) index (n-j) r/\sv=s1+ik (Jp l a n) index (n-j) r/\Own w0 wr ((gf,ci ga a n b m index row told (st+s1))::(ga,AR (.slice gd l.length l.length) live peak)::(gd,B l)::rs) ss) (λ_ u _=>n-(intOf u).toNat)
 case atStart=>exact⟨0,0,0,FP,FP,rfl,rfl,FP,FP,HBV.o,by rw[Int.zero_add];exact HSV.o,by rw[jf];exact hm⟩
 case round=>
  clear hm;obtain⟨j,r,s1,hj,hr,rfl,rfl,s10,s11,hb,hs,hm⟩:=hrel;by_cases hlt:j<n
  .obtain⟨i,hi⟩:∃i,n-j=i+1:=⟨n-j-1,FP⟩;rw[hi,cD]at hb;rw[hi,ik]at hs;have CB:=aa (λW hW=>CBH.o W r (st+s1) hW hr FP FP);by_cases he:r=index
   .simp only[aQ he]at CB;rw[aQ he]at hb hs;rw[jf]at hs;subst hb hs;clear he
    go_wp2_with(first
    |go_at_call 73;refine MP (CB.o _ hm) ?_;clear hm;intro w hm
    |refine UV ?_;try(clear hm;intro w gp hm))
    exact gR
   .simp only[aP he]at CB;rw[aP he]at hb hs;have hpl:Iw index r<n:=lA i1 i2 hr he;obtain⟨e1,e2⟩:=sR HCB.o (Iw index r) Jk;rw[HCL.o]at e2;rw[<-e1]at CB;have HB2:=aa hb;have HS2:=aa hs;clear hb hs he e1;generalize (bc (Jp l a n) (Iw index r)).toNat=r2 at*;generalize gi (Jp l a n) (Iw index r)=c at*
    go_wp2_with(first
    |go_at_call 73;refine MP (CB.o _ hm) ?_;clear hm;intro w hm
    |refine UV ?_;try(clear hm;intro w gp hm))
    go_roundw
    case rel=>exact⟨j+1,r2,s1+1,FP,e2,by go_num,rfl,FP,FP,by rw[show n-(j+1)=i by omega];exact HB2.o,by rw[HS2.o,show n-(j+1)=i by omega];omega,by rw[show st+(s1+1)=st+s1+1 by omega];exact hm⟩
    case measure=>simp[intOf];omega
  .obtain rfl:n=j:=FP
   rw[iV,cD]at hb;rw[iV,ik,jf]at hs;subst hb hs
   have q1:((r:Int)==index)=decide (r=index):=by
    by_cases h:r=index
    .simp[h]
    .rw[aU h];simp;omega
   generalize hbb:decide (r=index)=bb at*;have HBB:=aa hbb;clear hbb
   go_wp2_with(first
   |go_at_call 73;refine MP (CB.o _ hm) ?_;clear hm;intro w hm
   |refine UV ?_;try(clear hm;intro w gp hm))
   go_ret;exact⟨by first|rfl|(rw[HBB.o];rfl),hm⟩
def Z6{rb rm ix row told st:Int}(hm:Own w0 w ((gf,FL pa la ln rb rm ix row told st)::rs) ss):ak 313 #[gf] w (RW w (.int .i64 told)):=by
 go_enter func313,ntmps313
 exact po
def A4y{rb rm ix row told st:Int}(hm:Own w0 w ((gf,FL pa la ln rb rm ix row told st)::rs) ss):ak 312 #[gf] w (RW w (.int .i64 st)):=by
 go_enter func312,ntmps312
 exact po
def Ts{rb rm ix row told st:Int}(hm:Own w0 w ((gf,FL pa la ln rb rm ix row told st)::rs) ss):ak 311 #[gf] w (RO (.tuple #[]) w0 ((gf,FL pa la ln rb rm ix 0 0 st)::rs) ss):=by
 go_enter func311,ntmps311
 go_wp2_with(refine UV ?_;try(clear hm;intro w gp hm))
 go_end0
 exact⟨rfl,hm⟩
def VC(a n:Nat)(index:Nat)(row told st:Int)(hm:Own w0 w ((gf,ci ga a n b m index row told st)::(ga,AR (.slice gd l.length l.length) live peak)::(gd,B l)::rs) ss)(h:fD l live a n b m index)(hw:∀r,r<=n->w32 l (b+4*r) 4=rowsOf (Jp l a n) index r)(s0:0<=st)(s1:st<=100000000000000)(ht:told=n):ak 30 #[gf] w (RO (.tuple #[.int .u8 0,.bool false]) w0 ((gf,ci ga a n b m index row told st)::(ga,AR (.slice gd l.length l.length) live peak)::(gd,B l)::rs) ss):=by
 subst ht;clear h hw s0 s1;go_enter func30,ntmps30
 exact rh
def A5F(a n:Nat)(index:Nat)(r k:Nat)(st:Int)(hm:Own w0 w ((gf,ci ga a n b m index r k st)::(ga,AR (.slice gd l.length l.length) live peak)::(gd,B l)::rs) ss)(h:fD l live a n b m index)(hw:∀j,j<=n->w32 l (b+4*j) 4=rowsOf (Jp l a n) index j)(s0:0<=st)(s1:st<=100000000000000)(hr:r<=n)(hk:k<n)(he:r≠index):ak 30 #[gf] w (RO (.tuple #[.int .u8 (gi (Jp l a n) (Iw index r)),.bool true]) w0 ((gf,ci ga a n b m index (bc (Jp l a n) (Iw index r)) (k+1) (st+1))::(ga,AR (.slice gd l.length l.length) live peak)::(gd,B l)::rs) ss):=by
 obtain⟨r0,hr0⟩:∃r0:Nat,r0=r:=⟨r,rfl⟩
 have CB0:Hid (∀W(r:Nat)(st':Int),Own w0 W ((gf,ci ga a n b m index r0 k st')::(ga,AR (.slice gd l.length l.length) live peak)::(gd,B l)::rs) ss->r<=n->0<=st'->st'<=1000000000000000->ak 73 #[gf,.int .i64 r] W λe w'=>if r=index then(e=.returned (.tuple #[.int .i64 0,.int .u8 0,.bool false]))/\Own w0 w' ((gf,ci ga a n b m index r0 k st')::(ga,AR (.slice gd l.length l.length) live peak)::(gd,B l)::rs) ss else(e=.returned (.tuple #[.int .i64 (bc (Jp l a n) (Iw index r)),.int .u8 (gi (Jp l a n) (Iw index r)),.bool true]))/\Own w0 w' ((gf,ci ga a n b m index r0 k (st'+1))::(ga,AR (.slice gd l.length l.length) live peak)::(gd,B l)::rs) ss):=λW r st' hW hr h0 h1=>by
   exact Ch
 subst hr0;have CB:=aa (λW hW=>CB0.o W r0 st hW hr s0 FP);have hn2:=h.n2;have q1:((k:Int)==n)=false:=by simp;omega
 have w1:IntKind.i64.wrap ((k:Int)+1)=(k:Int)+1:=av;simp only[aP he]at CB;clear h hw s0 s1 he hr CB0;generalize bc (Jp l a n) (Iw index r0)=r2 at*;generalize gi (Jp l a n) (Iw index r0)=c at*;go_enter func30,ntmps30
 go_wp2_with(first
 |go_at_call 73;refine MP (CB.o _ hm) ?_;clear hm;intro w hm
 |refine UV ?_;try(clear hm;intro w gp hm))
 go_ret2
 exact⟨rfl,hm⟩
end
section
variable{la live ln peak:Int}{col l l2:ac}{a b ga index k m n r:Nat}{o:Oz}{u x y z:O7}{dv p:NY}{w w0:FC}
structure Wrote(col l l2:ac)(b index k:Nat):Prop where
 len:l2.length=l.length
 byt:Bytes l2
 out:∀i,i<b->gi l2 i=gi l i
 word:∀r,r<k->w32 l2 (b+4*r) 4=rowsOf col index r
def Wrote.set(h:Wrote col l l2 b index k)(hf:b+4*k+4<=l.length){v:Int}(hv:v=rowsOf col index k)(v0:0<=v)(v1:v<4294967296):Wrote col l (bo l2 (b+4*k) v 4) b index (k+1):=by
 have hl:=h.len;refine⟨by rw[Xd,hl],V8 h.byt 4,λi hi=>?_,λr hr=>?_⟩
 .rw[ND _ _ _ _ 4 FP,aP FP,h.out i hi]
 .by_cases e:r=k
  .subst e;rw[yX FP v0 v1,hv]
  .rw[aF FP FP];exact h.word r FP
def Tr(hb:Bytes l)(h1:1<=index)(h2:index<=l.length)(hr:r<=l.length):0<=rowsOf l index r/\rowsOf l index r<=l.length:=by
 rw[rowsOf];split
 .omega
 .rename_i h;have:=oI hb (Iw index r) (lA h1 h2 hr h);omega
def QS(hr:AA w0 ga (AR dv live peak))(n1:1<=n)(n2:n<=65536)(ap:a+n<=b)(fit:(b:Int)+m<=live)(four:4*(n+1)<=m)(lim:live<=1048576):ak 65 #[ga,.agg (SP a n),.agg (SP b m)] w0 (RB w0 (.bool true)):=by
 have CH:Hid (∀W(x y:Nat),(x=a/\y=n\/x=b/\y=m)->Below w0.heap.size w0 W->ak 64 #[ga,.agg (SP x y)] W (RB W (.bool true))):=λW x y hxy h=>vZ (hr.keep W h) FP FP FP lim;have q1:decide ((n:Int)<1)=false:=an;have q2:decide (65536<(n:Int))=false:=an;have w1:IntKind.i64.wrap ((n:Int)+1)=(n:Int)+1:=av;have w2:IntKind.i64.wrap (4*((n:Int)+1))=4*((n:Int)+1):=av;have q3:decide ((m:Int)<4*((n:Int)+1))=false:=an;have w3:IntKind.i64.wrap ((a:Int)+n)=(a:Int)+n:=av;have q4:decide ((a:Int)+n<=b)=true:=az;clear hr;go_enter func65,ntmps65;have hm:=Own.nil w0
 go_wp2_with(first
  |go_at_call 64;refine cB (CH.o _ _ _ LP hm.below) hm ?_;clear hm;intro w1 hm
  |(with_reducible refine wb hm ?_;clear hm;first|(have _t:=g2;intro w g3 hm)|(have _t:=g1;intro w g2 hm)|intro w g1 hm)
  |with_reducible (first|refine wl 3 0 hm ?_ (hv:=Gm)|refine wl 3 1 hm ?_ (hv:=Gm))
  |with_reducible (first|refine aM 50 0 hm ?_ (ht:=al Eo)|refine aM 50 1 hm ?_ (ht:=al Eo)))
 go_ret;exact cL
def Cd(w:FC):(zeroValue 114).run prog w=.ok (.agg (FL (.pointer none) 0 0 0 0 0 0 0 0)) w:=FZ
def Ql{a:OA}(ho:o.op=.build 114 #[(0,x),(1,y),(2,z),(3,u)]){rb rm ix:Int}(hx:a.eval x=p)(hp:p.cells=#[p])(hy:a.eval y=.agg (SP la ln))(hz:a.eval z=.agg (SP rb rm))(hu:a.eval u=.int .i64 ix):
  (execOp a.eval o).run prog w=.ok (.value (.agg (FL p la ln rb rm ix 0 0 0))) w:=by
 refine Dq ho ?_;rw[VT (places:=[(0,1),(1,2),(3,2),(5,1),(6,1),(7,1),(8,1)]) FZ FZ Cd FZ w];simp only[cM,bT,bZ,hx,hy,hz,hu];rw[VG rfl hp JW (A6a p)]
 rw[show SP la ln=([Value.int .i64 la,.int .i64 ln]:ar).toArray from rfl,Zj [Value.int .i64 la,.int .i64 ln] (n:=2) (ns:=FL p la ln 0 0 0 0 0 0) rfl rfl JW (by
  show splice ([p]++([Value.int .i64 0,.int .i64 0]++[Value.int .i64 0,.int .i64 0,.int .i64 0,.int .i64 0,.int .i64 0,.int .i64 0])).toArray 1 _=_
  exact bn (off:=1) (P:=[p]) rfl rfl)]
 rw[show SP rb rm=([Value.int .i64 rb,.int .i64 rm]:ar).toArray from rfl,Zj [Value.int .i64 rb,.int .i64 rm] (n:=2) (ns:=FL p la ln rb rm 0 0 0 0) rfl rfl JW (by
  show splice ([p,Value.int .i64 la,.int .i64 ln]++([Value.int .i64 0,.int .i64 0]++[Value.int .i64 0,.int .i64 0,.int .i64 0,.int .i64 0])).toArray 3 _=_
  exact bn (off:=3) (P:=[p,Value.int .i64 la,.int .i64 ln]) rfl rfl)]
 rw[VG rfl rfl JW (A6b ix)];rfl
end
section
variable{w0 w:FC}{p q r s t u:O9}{rs:ae}{ss:O1}
def Own.a1U(h:Own w0 w (p::q::r::s::t::u::rs) ss):Own w0 w (q::t::u::p::r::s::rs) ss:=h.perm (by
 refine xA ?_ (fM p q _);refine jr q ?_
 exact((gK (l₁:=[t,u]) (l₂:=[p,r,s])).append_right rs))
def Own.A6F(h:Own w0 w (q::t::u::p::r::s::rs) ss):Own w0 w (p::q::r::s::t::u::rs) ss:=h.perm (List.Perm.symm (by
 refine xA ?_ (fM p q _);refine jr q ?_
 exact((gK (l₁:=[t,u]) (l₂:=[p,r,s])).append_right rs)))
def Own.Z4(h:Own w0 w (p::q::r::s::t::u::rs) ss):Own w0 w (q::t::u::rs) ss:=h.sub (qY _ (jw _ (qY _ (qY _ (aY _))))) (aY _)
end
def A5G{ga gd:Nat}(a:Nat){n b m index:Nat}{l:ac}{live peak:Int}{w0 w:FC}{rs:ae}{ss:O1}(hm:Own w0 w ((ga,AR (.slice gd l.length l.length) live peak)::(gd,B l)::rs) ss)(h:fD l live a n b m index):ak 25 #[ga,.agg (SP a n),.int .i64 index,.agg (SP b m)] w λe w'=>∃(gf:Nat)(l2:ac),(e=.returned (.tuple #[gf,.int .i64 0]))/\l2.length=l.length/\Jp l2 a n=Jp l a n/\(∀i,i<b->gi l2 i=gi l i)/\fD l2 live a n b m index/\(∀r,r<=n->w32 l2 (b+4*r) 4=rowsOf (Jp l2 a n) index r)/\Own w0 w' ((gf,ci ga a n b m index 0 0 0)::(ga,AR (.slice gd l2.length l2.length) live peak)::(gd,B l2)::rs) ss:=by
 obtain⟨n1,n2,ap,fit,four,lim,big,i1,i2,byt⟩:=h;have hal:a+n<=l.length:=FP
 have HCL:Hid ((Jp l a n).length=n):=aa (fX hal);have HCB:Hid (Bytes (Jp l a n)):=aa (kA byt);obtain⟨col,hcol⟩:∃col,col=Jp l a n:=⟨_,rfl⟩;have HCOL:=aa hcol;rw[<-hcol]at HCL HCB⊢;have CV:Hid (∀W,AA W ga (AR (.slice gd l.length l.length) live peak)->ak 65 #[ga,.agg (SP a n),.agg (SP b m)] W (RB W (.bool true))):=λW hr=>QS hr n1 n2 ap fit four FP
 have CL:Hid (∀W,AA W ga (AR (.slice gd l.length l.length) live peak)->AA W gd (B l)->ak 66 #[ga,.agg (SP a n)] W (RB W (.agg (J .i64 (tab 256 (aT col)))))):=λW h3 h4=>by
  rw[hcol];exact Yb a n h3 h4 byt FP lim big FP
 have q1:decide ((index:Int)<1)=false:=an;have q2:decide ((n:Int)<index)=false:=an;have q3:decide (n<index)=false:=an;have wn:IntKind.i64.wrap ((n:Int)+1)=((n+1:Nat):Int):=by rw[aZ _ FP];push_cast;rfl
 have hz:Wrote col l l b index 0:=⟨rfl,byt,λ_ _=>rfl,λr h=>FP⟩;clear hcol hal byt;go_enter func25,ntmps25
 go_wp2_with(first
 |go_at_call 65;refine cB (CV.o _ (hm.row 2 rfl)) hm ?_;clear hm;intro w1 hm
 |go_at_call 66;refine cB (CL.o _ (hm.row 3 rfl) (hm.row 4 rfl)) hm ?_;clear hm;intro w1 hm
 |(with_reducible refine wb hm ?_;clear hm;first|(have _t:=g2;intro w gf hm)|(have _t:=g1;intro w g2 hm)|intro w g1 hm)
 |with_reducible refine cS ?_;(refine A8 rfl (Ql rfl rfl rfl rfl rfl rfl) ?_)
 |(with_reducible first|refine wa 115 hm rx ?_;clear hm;intro w g11 hm|refine ws 115 0 hm ?_ (ht:=al (ya _)) (hs:=al a0u) (h1:=al J_one);clear hm;intro w hm)
 |with_reducible (first|refine wl 3 0 hm ?_ (hv:=Gm)|refine wl 3 1 hm ?_ (hv:=Gm)|refine wl 3 2 hm ?_ (hv:=Gm)|refine wl 3 3 hm ?_ (hv:=Gm))
 |with_reducible (first|refine aM 50 0 hm ?_ (ht:=al Eo)|refine aM 50 1 hm ?_ (ht:=al Eo)|refine aM 50 2 hm ?_ (ht:=al Eo)|refine aM 50 3 hm ?_ (ht:=al Eo)))
 have hm0:Own w0 w ((g11,J .i64 (tab 256 (FK col (Iw index 0))))::(gf,ci ga a n b m index 0 0 0)::(g2,SP b m)::(g1,SP a n)::(ga,AR (.slice gd l.length l.length) live peak)::(gd,B l)::rs) ss:=by
  rw[Gi (f:=FK col (Iw index 0)) (g:=aT col) (λi _=>by rw[FK,show Iw index 0=0 by rw[Iw,aP FP]];simp[eqn])];exact hm
 clear hm;have hm:=hm0;clear hm0
 go_loopw[43] (λu wr=>∃(k:Nat)(l2:ac),k<=n+1/\u=.int .i64 k/\Wrote col l l2 b index k/\Own w0 wr ((g11,J .i64 (tab 256 (FK col (Iw index k))))::(gf,ci ga a n b m index 0 0 0)::(g2,SP b m)::(g1,SP a n)::(ga,AR (.slice gd l.length l.length) live peak)::(gd,B l2)::rs) ss) (λu _=>n+1-(intOf u).toNat)
 case atStart=>exact⟨0,l,FP,rfl,hz,hm⟩
 case round=>
  clear hm hz;obtain⟨k,l2,hk,rfl,hW,hm⟩:=hrel;have hl2:=hW.len;by_cases hlt:k<n+1
  .have q0:decide ((k:Int)<((n+1:Nat):Int))=true:=az;have q0b:decide ((k:Int)<(n:Int)+1)=true:=az
   have hcol2:Jp l2 a n=col:=by
    rw[HCOL.o];exact zt hl2 FP (λi _ h2=>hW.out i FP)
   have hbd:=Tr HCB.o (index:=index) (r:=k) i1 (by rw[HCL.o];exact i2) (by rw[HCL.o];omega);rw[HCL.o]at hbd
   have CY:Hid (∀(W:FC),Own w0 W ((g11,J .i64 (tab 256 (FK col (Iw index k))))::(gf,ci ga a n b m index 0 0 0)::(g2,SP b m)::(g1,SP a n)::(ga,AR (.slice gd l.length l.length) live peak)::(gd,B l2)::rs) ss->ak 67 #[gf,.int .i64 k] W (RO (if k=index then .tuple #[.int .u8 0,.bool false]else .tuple #[.int .u8 (gi col (Iw index k)),.bool true]) w0 ((g11,J .i64 (tab 256 (FK col (Iw index k))))::(gf,ci ga a n b m index 0 0 0)::(g2,SP b m)::(g1,SP a n)::(ga,AR (.slice gd l.length l.length) live peak)::(gd,B l2)::rs) ss)):=λW hX=>by
    have hp:=y4 gf ga gd a n b m index l2 0 0 0 live peak k w0 W ((g11,J .i64 (tab 256 (FK col (Iw index k))))::(g2,SP b m)::(g1,SP a n)::rs) ss (by rw[hl2];exact hX.a1U) ⟨n1,n2,ap,fit,four,FP,FP,i1,i2,hW.byt⟩ FP;rw[hcol2]at hp;refine hp.mono λe w' h=>⟨h.1,?_⟩;have h2:=h.2;rw[hl2]at h2;exact h2.A6F
   have CS:Hid (∀(W:FC)(f:Nat->Int),Own w0 W ((g11,J .i64 (tab 256 f))::(gf,ci ga a n b m index 0 0 0)::(g2,SP b m)::(g1,SP a n)::(ga,AR (.slice gd l.length l.length) live peak)::(gd,B l2)::rs) ss->ak 68 #[ga,.agg (SP b m),.int .i64 k,.int .u32 (rowsOf col index k)] W (RO (.bool true) w0 ((g11,J .i64 (tab 256 f))::(gf,ci ga a n b m index 0 0 0)::(g2,SP b m)::(g1,SP a n)::(ga,AR (.slice gd l.length l.length) live peak)::(gd,B (bo l2 (b+4*k) (rowsOf col index k) 4))::rs) ss)):=λW f hX=>ud ga gd b m k l2 (rowsOf col index k) live peak 4 5 hX (by rw[hl2];rfl) rfl fit FP FP FP hbd.1 FP FU;have HW2:Hid (Wrote col l (bo l2 (b+4*k) (rowsOf col index k) 4) b index (k+1)):=aa (hW.set FP rfl hbd.1 FP)
   have w5:IntKind.u32.wrap (rowsOf col index k)=rowsOf col index k:=jO _ FP;have HBD:=aa hbd;clear hW hcol2 hbd;by_cases hi:k=index
   .rw[aQ hi]at CY;have hr0:rowsOf col index k=0:=by rw[rowsOf,aQ hi]
    have HT:Hid (tab 256 (FK col (Iw index (k+1)))=tab 256 (FK col (Iw index k))):=aa (by rw[show Iw index (k+1)=Iw index k by simp only[Iw];rw[aQ FP,aP FP];omega]);rw[hr0]at CS HW2;clear hi hr0 w5 HBD;have CS1:=aa (CS.o · (FK col (Iw index k)));generalize tab 256 (FK col (Iw index k))=T1 at*
    go_wp2_with(first
     |go_at_call 67;refine MP (CY.o _ hm) ?_;clear hm;intro w hm
     |go_at_call 68;refine MP (CS1.o _ hm) ?_;clear hm;intro w hm
     |with_reducible refine wl 3 2 hm ?_ (hv:=Gm)
     |with_reducible refine aM 50 2 hm ?_ (ht:=al Eo))
    go_roundw
    case rel=>exact⟨k+1,_,FP,by go_num,HW2.o,by rw[HT.o];exact hm⟩
    case measure=>simp[intOf];omega
   .rw[aP hi]at CY;obtain⟨p,hp⟩:∃p,p=Iw index k:=⟨_,rfl⟩;have hpl:p<n:=by rw[hp];exact lA i1 i2 FP hi
    have hp1:p=if index<k then k-1 else k:=hp
    have hp2:Iw index (k+1)=p+1:=by rw[Iw];split at hp1<;>split<;>omega
    have hs:=HCB.o (gi col p) (by rw[BZ col p Jk];exact dF _);obtain⟨c,hc⟩:=dB hs.1;have hc1:c<256:=FP
    have hrow:rowsOf col index k=FK col p c+1:=by rw[rowsOf,aP hi,bc,<-hp,hc,FK,gB];omega
    have hbd:=HBD.o;rw[hrow]at CS HW2 hbd w5;rw[<-hp]at CY hm;rw[hc]at CY;have w3:IntKind.i64.wrap (FK col p c+1)=FK col p c+1:=av;have HP:=aa (kH .i64 (n:=256) (FK col p) (FK col (p+1)) c (FK col p c+1) (λj _=>ZF Jk hc j));have HG:=aa (PU .i64 (FK col p) hc1);have HG2:Hid ((J .i64 (tab 256 (FK col (p+1))))[c]?=some (.int .i64 (FK col p c+1))):=aa (by rw[PU .i64 _ hc1,<-ZF Jk hc,aQ rfl]);have HSZ:Hid (c<(J .i64 (tab 256 (FK col p))).size):=aa Jg;have CS1:=aa (CS.o · (FK col (p+1)));clear hs hc hbd hp1 hp hi HBD hrow CS;generalize FK col p c=z at*;generalize hT1:tab 256 (FK col p)=T1 at*;generalize hT2:tab 256 (FK col (p+1))=T2 at*
    go_wp2_with(first
     |go_at_call 67;refine MP (CY.o _ hm) ?_;clear hm;intro w hm
     |go_at_call 68;refine MP (CS1.o _ hm) ?_;clear hm;intro w hm
     |with_reducible refine wl 3 2 hm ?_ (hv:=Gm)
     |with_reducible refine aM 50 2 hm ?_ (ht:=al Eo)
     |with_reducible refine wl 3 0 hm ?_ (hv:=MB)
     |with_reducible refine wc 3 0 hm ?_ (hf:=al HSZ.o) (hn:=al HP.o);clear hm;intro w hm)
    go_roundw
    case rel=>exact⟨k+1,_,FP,by go_num,HW2.o,by rw[hp2,hT2];exact hm⟩
    case measure=>simp[intOf];omega
  .obtain rfl:k=n+1:=FP
   have q0:decide (((n+1:Nat):Int)<((n+1:Nat):Int))=false:=an;have hcol2:Jp l2 a n=Jp l a n:=zt hl2 FP (λi _ h2=>hW.out i FP);have HE:=aa (⟨hl2,by rw[hcol2,<-HCOL.o],hW.out,⟨n1,n2,ap,fit,four,FP,FP,i1,i2,hW.byt⟩,λr hr=>by rw[hcol2,<-HCOL.o];exact hW.word r FP⟩:l2.length=l.length/\Jp l2 a n=col/\(∀i,i<b->gi l2 i=gi l i)/\fD l2 live a n b m index/\(∀r,r<=n->w32 l2 (b+4*r) 4=rowsOf (Jp l2 a n) index r));clear hW;generalize tab 256 (FK col (Iw index (n+1)))=T at*;go_wp2
   go_ret2
   exact⟨gf,l2,rfl,HE.o.1,HE.o.2.1,HE.o.2.2.1,HE.o.2.2.2.1,HE.o.2.2.2.2,by rw[hl2];exact hm.Z4⟩
def sq(t:ac)(i:Nat):Int:=if i<t.length then 1+gi t i else 0
section
variable{s:Nat->Int}{w v i k:Nat}
def gD(s:Nat->Int)(w i k:Nat):Prop:=∃j,j<w/\(∀a,a<j->s (i+a)=s (k+a))/\s (i+j)<s (k+j)
def kr(s:Nat->Int)(w i k:Nat):Prop:=∀a,a<w->s (i+a)=s (k+a)
def kr.symm(h:kr s w i k):kr s w k i:=λa ha=>(h a ha).symm
def tri(s:Nat->Int)(i k:Nat):∀w,gD s w i k\/kr s w i k\/gD s w k i
|0=>.inr (.inl λa ha=>by omega)
|w+1=>by
  rcases tri s i k w with⟨j,h1,h2,h3⟩|h|⟨j,h1,h2,h3⟩
  .exact .inl ⟨j,FP,h2,h3⟩
  .rcases vw (s (i+w)) (s (k+w))with h4|h4|h4
   .exact .inl ⟨w,FP,h,h4⟩
   .refine .inr (.inl λa ha=>?_);by_cases e:a=w
    .rw[e];exact h4
    .exact h a FP
   .exact .inr (.inr ⟨w,FP,h.symm,h4⟩)
  .exact .inr (.inr ⟨j,FP,h2,h3⟩)
def gD.FE(h:gD s w i k)(h2:kr s w i k):False:=by
 obtain⟨j,h3,_,h4⟩:=h;have:=h2 j h3;omega
def gD.asymm(h:gD s w i k)(h2:gD s v k i):False:=by
 obtain⟨j,_,h3,h4⟩:=h;obtain⟨j2,_,h5,h6⟩:=h2;rcases qX j j2 with h|h|h
 .have:=h5 j h;omega
 .subst h;omega
 .have:=h3 j2 h;omega
def SO:gD s (w+v) i k↔gD s w i k\/kr s w i k/\gD s v (i+w) (k+w):=by
 constructor
 .rintro⟨j,h1,h2,h3⟩;by_cases hj:j<w
  .exact .inl ⟨j,hj,h2,h3⟩
  .refine .inr ⟨λa ha=>h2 a FP,j-w,FP,λa ha=>?_,?_⟩
   .have:=h2 (w+a) FP;rw[gG,gG];exact this
   .rw[gG,gG,show w+(j-w)=j by omega];exact h3
 .rintro(⟨j,h1,h2,h3⟩|⟨h0,j,h1,h2,h3⟩)
  .exact⟨j,FP,h2,h3⟩
  .refine⟨w+j,FP,λa ha=>?_,?_⟩
   .by_cases hw:a<w
    .exact h0 a hw
    .have:=h2 (a-w) FP;rw[gG,gG,show w+(a-w)=a by omega]at this;exact this
   .rw[<-gG,<-gG];exact h3
def pG(s:Nat->Int)(i k:Nat):Prop:=∃w,gD s w i k
end
def Zv{t:ac}:sq t t.length=0:=aP FP
def U6{t:ac}(hb:∀x∈t,0<=x){i:Nat}(h:sq t i=0):t.length<=i:=by
 rw[sq]at h;split at h
 .rename_i hi;have:=hb _ (cI t i hi);omega
 .omega
def s9{t:ac}(hb:∀x∈t,0<=x){w i k:Nat}(hi:i<=t.length)(h:kr (sq t) w i k)(hw:t.length<i+w):i<=k:=by
 have h1:=h (t.length-i) FP;rw[show i+(t.length-i)=t.length by omega,Zv]at h1;have:=U6 hb h1.symm;omega
def UF{t:ac}(v:Nat){i k:Nat}(hi:t.length<i)(hk:t.length<k):¬gD (sq t) v i k:=by
 rintro⟨j,_,_,h⟩;rw[sq,sq,aP FP,aP FP]at h;omega
def gp(l:List Pr)(i:Nat):Pr:=l.getD i (0,0)
def k7(l:List Pr)(i:Nat)(h:i<l.length):gp l i=l[i]:=by simp[gp,h]
def kO(l:List Pr)(i:Nat)(h:i<l.length):gp l i∈l:=by rw[k7 l i h];exact dF h
structure ey(t:ac)(w:Nat)(l:List Pr):Prop where
 len:l.length=t.length+1
 lt:∀i k,i<=t.length->k<=t.length->(eh (gp l i) (gp l k)=true↔gD (sq t) w i k)
def ey.eq{t:ac}{w:Nat}{l:List Pr}(h:ey t w l){i k:Nat}(hi:i<=t.length)(hk:k<=t.length):gp l i=gp l k↔kr (sq t) w i k:=by
 constructor
 .intro he;rcases tri (sq t) i k w with h1|h1|h1
  .have:=(h.lt i k hi hk).2 h1;rw[he,nz]at this;cases this
  .exact h1
  .have:=(h.lt k i hk hi).2 h1;rw[he,nz]at this;cases this
 .intro he;rcases qe (gp l i) (gp l k)with h1|h1|h1
  .exact((h.lt i k hi hk).1 h1).FE he|>.elim
  .exact h1
  .exact((h.lt k i hk hi).1 h1).FE he.symm|>.elim
def ki(l:List Pr){i:Nat}(h:i<l.length):gi (aE l) i=rk l (gp l i):=by
 simp[gi,aE,gp,h]
def iv(l:List Pr):(aE l).length=l.length:=by simp[aE]
def ey.kf{t:ac}{w:Nat}{l:List Pr}(h:ey t w l){i k:Nat}(hi:i<=t.length)(hk:k<=t.length):gi (aE l) i<gi (aE l) k↔gD (sq t) w i k:=by
 have hl:=h.len;rw[ki l FP,ki l FP,Int.ofNat_lt,Xf (kO l i FP) (kO l k FP),h.lt i k hi hk]
def ey.tv{t:ac}{w:Nat}{l:List Pr}(h:ey t w l){i k:Nat}(hi:i<=t.length)(hk:k<=t.length):gi (aE l) i=gi (aE l) k↔kr (sq t) w i k:=by
 have hl:=h.len;rw[ki l FP,ki l FP,Int.ofNat_inj,Proofs.YtkpbhdhkdonghaaGreat.tv (kO l i FP) (kO l k FP),h.eq hi hk]
def K5{r:ac}{w:Nat}:(two r w).length=r.length:=by simp[two]
def Kx{r:ac}{w:Nat}{i:Nat}(h:i<r.length):gp (two r w) i=(gi r i,if i+w<r.length then gi r (i+w)else-1):=by
 simp[gp,two,h]
def ey.next{t:ac}(hb:∀x∈t,0<=x){w:Nat}{l:List Pr}(h:ey t w l):ey t (w*2) (two (aE l) w):=by
 have hl:=h.len;refine⟨by rw[K5,iv,hl],λi k hi hk=>?_⟩;rw[Nat.mul_two,SO,Kx (by rw[iv];omega),Kx (by rw[iv];omega),o4,h.kf hi hk,h.tv hi hk,iv,hl];refine or_congr Iff.rfl (and_congr_right λhe=>?_);have h1:t.length<i+w->i<=k:=s9 hb hi he;have h2:t.length<k+w->k<=i:=s9 hb hk he.symm;by_cases hin:i+w<=t.length
 .have hkn:k+w<=t.length:=by
   rcases bF t.length (k+w)with h3|h3
   .have:=h2 h3;omega
   .exact h3
  rw[aQ FP,aQ FP];exact h.kf hin hkn
 .have hkn:t.length<k+w:=by have:=h1 FP;omega
  rw[aP FP,aP FP];exact⟨λh=>FP,λh=>(UF w FP hkn h).elim⟩
def ey.first{t:ac}(hb:∀x∈t,0<=x):ey t 1 (eS t):=by
 have hl:(eS t).length=t.length+1:=by simp[eS]
 have hg:∀i,i<=t.length->gp (eS t) i=(sq t i,0):=by
  intro i hi;by_cases h:i<t.length
  .simp[gp,eS,sq,h,gi,List.getElem?_append]
  .obtain rfl:i=t.length:=FP
   simp[gp,eS,sq]
 refine⟨hl,λi k hi hk=>?_⟩;rw[hg i hi,hg k hk,o4]
 constructor
 .rintro(h|⟨_,h⟩)
  .exact⟨0,FP,λa ha=>FP,h⟩
  .exact absurd h G5
 .rintro⟨j,h1,_,h3⟩;obtain rfl:j=0:=FP
  exact .inl h3
def ey.done{t:ac}(hb:∀x∈t,0<=x){w:Nat}{l:List Pr}(h:ey t w l)(hw:t.length<w):many l=l.length:=by
 have hn:l.Nodup:=by
  rw[List.Nodup,og];intro i k hi hk hik he;have hl:=h.len;have he2:gp l i=gp l k:=by rw[k7 l i hi,k7 l k hk];exact he
  have h1:=(h.eq (i:=i) (k:=k) FP FP).1 he2;have h2:=s9 hb FP h1 FP;have h3:=s9 hb FP h1.symm FP;omega
 rw[many,yv hn]
def LR{t:ac}(hb:∀x∈t,0<=x):∀(f w:Nat)(l:List Pr),ey t w l->1<=w->t.length<w+f->∃w' l',ey t w' l'/\many l'=l'.length/\go2 f w l=aE l'
|0,w,l,h,_,hf=>⟨w,l,h,h.done hb FP,rfl⟩
|f+1,w,l,h,h1,hf=>by
  rw[go2];split
  .exact LR hb f (w*2) _ (h.next hb) FP FP
  .rename_i hm;have:=Lo l;exact⟨w,l,h,FP,rfl⟩
structure fY(t:ac)(r:ac):Prop where
 len:r.length=t.length+1
 lt:∀i k,i<=t.length->k<=t.length->(gi r i<gi r k↔pG (sq t) i k)
 inj:∀i k,i<=t.length->k<=t.length->gi r i=gi r k->i=k
 low:∀i,i<=t.length->0<=gi r i
 cnt:∀i,i<=t.length->gi r i=((List.range (t.length+1)).countP λk=>decide (gi r k<gi r i):Nat)
def yo{t:ac}(hb:∀x∈t,0<=x):fY t (eM t):=by
 obtain⟨w,l,h,hm,he⟩:=LR hb (t.length+1) 1 (eS t) (.first hb) (aX _) FP;have hn:=Fs hm;have hl:=h.len;rw[eM,he]
 have inj:∀i k,i<=t.length->k<=t.length->gi (aE l) i=gi (aE l) k->i=k:=by
  intro i k hi hk h1;rw[ki l FP,ki l FP,Int.ofNat_inj,tv (kO l i FP) (kO l k FP),k7 l i FP,k7 l k FP]at h1;exact(List.getElem_inj hn).1 h1
 have lt:∀i k,i<=t.length->k<=t.length->(gi (aE l) i<gi (aE l) k↔pG (sq t) i k):=by
  intro i k hi hk;refine⟨λh1=>⟨w,(h.kf hi hk).1 h1⟩,?_⟩;rintro⟨v,h1⟩;rcases vw (gi (aE l) i) (gi (aE l) k)with h2|h2|h2
  .exact h2
  .obtain rfl:=inj i k hi hk h2;exact(h1.asymm h1).elim
  .exact(h1.asymm ((h.kf hk hi).1 h2)).elim
 refine⟨by rw[iv,hl],lt,inj,λi hi=>by rw[ki l FP];omega,λi hi=>?_⟩
 have hmap:l=(List.range (t.length+1)).map (gp l):=by
  apply qA
  .simp[hl]
  .intro a h1 h2;simp[gp,h1]
 have h2:l.countP (eh · (gp l i))=(List.range (t.length+1)).countP (λk=>eh (gp l k) (gp l i)):=by
  conv=>lhs;arg 2;rw[hmap]
  rw[vF];rfl
 have e1:gi (aE l) i=((List.range (t.length+1)).countP (λk=>eh (gp l k) (gp l i)):Nat):=by rw[ki l FP,rk,yv hn,h2]
 have e2:(List.range (t.length+1)).countP (λk=>decide (gi (aE l) k<gi (aE l) i))=(List.range (t.length+1)).countP (λk=>eh (gp l k) (gp l i)):=by
  refine lZ λk hk=>?_;have hk:=dS.1 hk;rw[h.lt k i FP hi,iR,h.kf FP hi]
 rw[e2];exact e1
section
variable{t r:ac}
def fY.high(h:fY t r){i:Nat}(hi:i<=t.length):gi r i<=t.length:=by
 rw[h.cnt i hi];have h1:(List.range (t.length+1)).countP (λk=>decide (gi r k<gi r i))<(List.range (t.length+1)).countP (λ_=>true):=s8 _ _ _ (λ_ _ _=>rfl) ⟨i,dS.2 FP,G5,rfl⟩;simp at h1;omega
end
def eI(r:ac):Nat->ac
|0=>List.replicate r.length 0
|k+1=>(eI r k).set (gi r k).toNat k
def dz(r:ac):ac:=eI r r.length
def oV(r:ac):∀k,(eI r k).length=r.length
|0=>by simp[eI]
|k+1=>by rw[eI,cO,oV r k]
def lstk(t o:ac):Nat->ac
|0=>[]
|k+1=>if gi o k=0 then lstk t o k else lstk t o k++[gi t (gi o k-1).toNat]
def jj(o:ac):Nat->Nat
|0=>0
|k+1=>if gi o k=0 then k else jj o k
def pc(t:ac):ac:=lstk t (dz (eM t)) (t.length+1)
def xm(t:ac):Nat:=jj (dz (eM t)) (t.length+1)
section
variable{t r:ac}
def fY.Pj(h:fY t r):∀k,k<=t.length+1->∀i,i<k->gi (eI r k) (gi r i).toNat=i
|0,_,i,hi=>by omega
|k+1,hk,i,hi=>by
  have h0:=h.low i FP;have h1:=h.high (i:=i) FP;have h2:=h.low k FP;have h3:=h.high (i:=k) FP;have hl:=h.len;rw[eI];simp only[gi,fU,mM,oV];by_cases e:k=i
  .subst e;rw[aQ rfl,aQ (by simp only[gi,fU]at*;omega)];rfl
  .have hne:¬(gi r k).toNat=(gi r i).toNat:=λhe=>e (h.inj k i FP FP FP);have ih:=h.Pj k FP i FP;simp only[gi,fU]at hne ih;rw[aP hne];exact ih
def Ft:∀(n:Nat)(l:b9),l.Nodup->(∀x∈l,x<n)->l.length<=n
|0,l,_,h=>by
  cases l with
 |nil=>exact aX _
 |cons a l=>have:=h a (eP ..);omega
|n+1,l,hn,h=>by
  have h1:=Ft n (l.erase n) (hn.erase n) λx hx=>by
   have h2:=(hn.mem_erase_iff).1 hx;have:=h x h2.2;have:=h2.1;omega
  have h3:l.length<=(l.erase n).length+1:=by
   rw[List.length_erase];split<;>omega
  omega
def fY.onto(h:fY t r){row:Nat}(hr:row<=t.length):∃i,i<=t.length/\gi r i=row:=by
 let l:=(List.range (t.length+1)).map λi=>(gi r i).toNat
 have hn:l.Nodup:=by
  rw[List.Nodup,tX];refine List.Pairwise.imp_of_mem ?_ List.pairwise_lt_range;intro i k hi hk hlt he;have hi:=dS.1 hi;have hk:=dS.1 hk;have h1:=h.low i FP;have h2:=h.low k FP;have:=h.inj i k FP FP FP;omega
 have hs:∀x∈l,x<t.length+1:=by
  intro x hx;obtain⟨i,hi,rfl⟩:=eX.1 hx;have hi:=dS.1 hi;have h1:=h.high (i:=i) FP;omega
 have hp:row∈l:=by
  refine Fj λhc=>?_
  have:=Ft (t.length+1) (row::l) (dR.2 ⟨hc,hn⟩) (λx hx=>by
   rcases dh.1 hx with rfl|hx
   .omega
   .exact hs x hx)
  simp[l]at this;omega
 obtain⟨i,hi,he⟩:=eX.1 hp;have hi:=dS.1 hi;have h1:=h.low i FP;exact⟨i,FP,FP⟩
def fY.Fr(h:fY t r){i:Nat}(hi:i<=t.length):gi (dz r) (gi r i).toNat=i:=by
 have:=h.Pj (t.length+1) (aX _) i FP;rw[dz,h.len];exact this
def fY.AeQ(h:fY t r){row:Nat}(hr:row<=t.length):0<=gi (dz r) row/\gi (dz r) row<=t.length:=by
 obtain⟨i,hi,he⟩:=h.onto hr;have:=h.Fr hi;rw[he,gB]at this;omega
def fY.AfA(h:fY t r){row:Nat}(hr:row<=t.length):gi (dz r) row=0↔(row:Int)=gi r 0:=by
 obtain⟨i,hi,he⟩:=h.onto hr;have:=h.Fr hi;rw[he,gB]at this;rw[this]
 constructor
 .intro h0;obtain rfl:i=0:=FP
  exact he.symm
 .intro h0;have:=h.inj i 0 hi FP FP;omega
def fY.zd(h:fY t r):∀k,k<=t.length+1->(lstk t (dz r) k).length=if gi r 0<k then k-1 else k
|0,_=>by
  have:=h.low 0 FP;rw[aP FP];rfl
|k+1,hk=>by
  have ih:=h.zd k FP;have hz:=h.AfA (row:=k) FP;have h0:=h.low 0 FP;rw[lstk];by_cases he:gi (dz r) k=0
  .have:=hz.1 he;rw[aQ he,ih,aP FP,aQ FP];omega
  .have:¬(k:Int)=gi r 0:=λh2=>he (hz.2 h2);rw[aP he,aV,ih];by_cases hc:gi r 0<k
   .rw[aQ hc,aQ FP];simp;omega
   .rw[aP hc,aP FP];simp
end
def UT{t:ac}(hb:∀x∈t,0<=x):(pc t).length=t.length:=by
 have h:=yo hb;have:=h.low 0 FP;have:=h.high (i:=0) FP;rw[pc,h.zd _ (aX _),aQ FP];omega
end Go.Proofs.YtkpbhdhkdonghaaGreat
