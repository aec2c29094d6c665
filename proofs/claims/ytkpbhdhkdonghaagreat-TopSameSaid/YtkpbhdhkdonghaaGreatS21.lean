/- Part 21 of the proof. -/
import Derived.Test.YtkpbhdhkdonghaaGreatS14
set_option linter.all false
set_option maxHeartbeats 2000000
set_option maxRecDepth 100000
namespace Go.Proofs.YtkpbhdhkdonghaaGreat
open Go Tryz Go.RowKit
section
variable{l:ac}{ss:O1}{c index k n:Nat}{rs:ae}{w w0:FC}
def Cl(w:FC):(zeroValue 184).run prog w=.ok (.agg (J .i64 (tab 257 λ_=>0))) w:=FZ
def Iy(l:ac)(k j:Nat):Int:=if j=0 then 0 else eqn (l.take k) (j-1)
def G7(l:ac)(k j:Nat):Int:=if j<=k then aT l j else eqn l (j-1)
def FK(l:ac)(k j:Nat):Int:=aT l j+eqn (l.take k) j
def wY(hk:k<l.length)(hc:gi l k=c)(j:Nat):(if j=c+1 then Iy l k (c+1)+1 else Iy l k j)=Iy l (k+1) j:=by
 by_cases h:j=c+1
 .subst h;rw[aQ rfl];simp only[Iy];rw[aP FP,aP FP,Nat.add_sub_cancel,Jm l k hk,hc,aQ rfl]
 .rw[aP h];simp only[Iy];by_cases h0:j=0
  .subst h0;simp
  .rw[aP h0,aP h0,Jm l k hk,hc,aP FP,jf]
def wX(k j:Nat):(if j=k+1 then G7 l k (k+1)+G7 l k k else G7 l k j)=G7 l (k+1) j:=by
 simp only[G7];by_cases h:j=k+1
 .subst h;rw[aQ rfl,aP FP,aQ (aX _),aQ (aX _),YO];rfl
 .rw[aP h];by_cases h2:j<=k
  .rw[aQ h2,aQ FP]
  .rw[aP h2,aP FP]
def ZF(hk:k<l.length)(hc:gi l k=c)(j:Nat):(if j=c then FK l k c+1 else FK l k j)=FK l (k+1) j:=by
 simp only[FK];rw[Jm l k hk,hc];by_cases h:j=c
 .subst h;rw[aQ rfl,aQ rfl];omega
 .rw[aP h,aP FP,jf]
def SD(l:ac)(k j:Nat):0<=Iy l k j/\Iy l k j<=l.length:=by
 rw[Iy];split
 .omega
 .have:=Fz (l.take k) (j-1);have:=lC k l;omega
def TV(l:ac)(k j:Nat):0<=G7 l k j/\G7 l k j<=l.length:=by
 rw[G7];split
 .exact Ll l j
 .exact Fz l _
def a1Q(l:ac)(k j:Nat):0<=FK l k j/\FK l k j<=2*l.length:=by
 have:=Ll l j;have:=Fz (l.take k) j;have:=lC k l;rw[FK];omega
def qx:(List.replicate n (Value.int .i64 0)).toArray=J .i64 (tab n λ_=>0):=by rw[<-a05,J,vs,List.map_replicate]
def EX(l:ac)(index k r:Nat):Int:=if r<k then rowsOf l index r else 0
def fK {v:NY}(hm:Own w0 w rs ss)(hv:∀W,Own w0 W rs ss->In .u8 W v l)(hb:Bytes l)(h1:1<=index)(h2:index<=l.length)(hn:l.length<=1000000):ak 71 #[v,.int .i64 index] w (λe w'=>∃g,e=.returned (.slice (some ⟨g,0,none⟩) (l.length+1) (l.length+1))/\Own w0 w' ((g,J .i64 (tab (l.length+1) (rowsOf l index)))::rs) ss):=by
 obtain⟨ad,cp,rfl,_⟩:=hv w hm
 have HC:Hid (∀W,Own w0 W rs ss->∀k,k<l.length->∃A,ad=some A/\W.cell? (A.add k)=some (.int .u8 (gi l k))):=λW h k hk=>by
  exact nv
 obtain⟨i3,hE⟩:=Md;have HE:=aa hE;obtain⟨i4,hF⟩:=nR;have HF:=aa hF;obtain⟨i5,hF1⟩:=wM;have HF1:=aa hF1;have HB:=aa hb;have wl:IntKind.i64.wrap ((l.length:Int)+1)=((l.length+1:Nat):Int):=by rw[aZ _ FP];push_cast;rfl
 clear hE hF hF1 hb hv;go_enter func71,ntmps71
 go_wp2_with(first
 |with_reducible refine na (t:=184) ?_;(refine Ad rfl (Dl hm rfl Cl ?_);clear hm;intro w g hm))
 have hm0:Own w0 w ((g,J .i64 (tab 257 (Iy l 0)))::rs) ss:=by
  rw[Gi (g:=λ_=>0)]
  .exact hm
  .intro i _;rw[Iy];split<;>rfl
 clear hm;have hm:=hm0;clear hm0
 go_loopw[16] (λu wr=>∃k:Nat,k<=l.length/\u=.int .i64 k/\Own w0 wr ((g,J .i64 (tab 257 (Iy l k)))::rs) ss) (λu _=>l.length-(intOf u).toNat)
 case atStart=>exact⟨0,FP,rfl,hm⟩
 case round=>
  clear hm;obtain⟨k,hk,rfl,hm⟩:=hrel;by_cases hlt:k<l.length
  .have hs:=HB.o (gi l k) JI;obtain⟨A,rfl,hA0⟩:=HC.o _ hm.dropRow k hlt;obtain⟨c,hc⟩:=dB hs.1;have hcell:wr.cell? (A.add k)=some (.int .u8 c):=by rw[<-hc];exact hA0
   have hc1:c+1<257:=FP
   have w1:IntKind.i64.wrap (c:Int)=c:=av;have w2:IntKind.i64.wrap ((c:Int)+1)=((c+1:Nat):Int):=by rw[aZ _ FP];push_cast;rfl
   have hbd:=SD l k (c+1);have w3:IntKind.i64.wrap (Iy l k (c+1)+1)=Iy l k (c+1)+1:=av;have HG:=aa (PU .i64 (Iy l k) hc1);have HP:=aa (kH .i64 (n:=257) (Iy l k) (Iy l (k+1)) (c+1) (Iy l k (c+1)+1) (λj _=>wY hlt hc j));have HSZ:Hid (c+1<(J .i64 (tab 257 (Iy l k))).size):=aa Jg;clear hA0 hs hc hbd;generalize Iy l k (c+1)=y at*;generalize hT1:tab 257 (Iy l k)=T1 at*;generalize hT2:tab 257 (Iy l (k+1))=T2 at*
   go_wp2_with(first
    |with_reducible refine cA (t:=22) ?_;(refine A8 rfl (Am rfl HE.o rfl rfl rfl hlt) ?_)
    |with_reducible refine bh (t:=5) ?_;(refine A8 rfl (AU rfl rfl FV hcell) ?_)
    |with_reducible refine bh (t:=3) ?_;(refine A8 rfl (ld 0 hm rfl rfl rfl (ot rfl) HG.o) ?_)
    |with_reducible refine bE (t:=3) ?_;(refine Ad rfl (AZ 0 hm rfl rfl (Ac rfl) rfl (ot rfl) HSZ.o rfl rfl HP.o ?_);clear hm;intro w hm;try simp only[puts,s2,List.set]at hm))
   exact qf
  .obtain rfl:l.length=k:=FP
   go_wp2
   have hm0:Own w0 wr ((g,J .i64 (tab 257 (G7 l 0)))::rs) ss:=by
    rw[Gi (g:=Iy l l.length)]
    .exact hm
    .intro i _;rw[Iy,G7,gY];by_cases h:i=0
     .subst h;rw[aQ (aX _),aQ rfl,uY HB.o]
     .rw[aP h,aP FP]
   clear hm;have hm:=hm0;clear hm0
   go_loopw[28] (λu wr=>∃k:Nat,k<=256/\u=.int .i64 k/\Own w0 wr ((g,J .i64 (tab 257 (G7 l k)))::rs) ss) (λu _=>256-(intOf u).toNat)
   case atStart=>exact⟨0,FP,rfl,hm⟩
   case round=>
    clear hm;obtain⟨k,hk,rfl,hm⟩:=hrel;by_cases hlt:k<256
    .have hc0:k<257:=FP
     have hc1:k+1<257:=FP
     have b1:=TV l k k;have b2:=TV l k (k+1);have w2:IntKind.i64.wrap ((k:Int)+1)=((k+1:Nat):Int):=by rw[aZ _ FP];push_cast;rfl
     have w3:IntKind.i64.wrap (G7 l k (k+1)+G7 l k k)=G7 l k (k+1)+G7 l k k:=av;have HG0:=aa (PU .i64 (G7 l k) hc0);have HG1:=aa (PU .i64 (G7 l k) hc1);have HP:=aa (kH .i64 (n:=257) (G7 l k) (G7 l (k+1)) (k+1) (G7 l k (k+1)+G7 l k k) (λj _=>wX k j));have HSZ:Hid (k+1<(J .i64 (tab 257 (G7 l k))).size):=aa Jg;clear b1 b2;generalize G7 l k (k+1)=y at*;generalize G7 l k k=z at*;generalize hT1:tab 257 (G7 l k)=T1 at*;generalize hT2:tab 257 (G7 l (k+1))=T2 at*
     go_upto_region 10 with fail
     refine NP hm 9 (.am [(0,false),(1,false),(2,false),(3,true),(4,false),(5,false),(6,true),(7,false),(8,false)] (.brk 9 10 .done)) rfl FZ rfl FZ (λ_ _ d _ _ h=>by cases d<;>exact h) ?_;clear hm;intro w hm;simp only[KT.am]
     refine bj rfl rfl (λW=>by go_simp;rfl) ?_
     try simp only[Act.put,s3]
     refine bj rfl rfl (λW=>by go_simp;show Value.int .i64 _=Value.int .i64 ((k+1:Nat):Int);rfl) ?_
     try simp only[Act.put,s3]
     refine bj rfl rfl (λW=>by go_simp;rw[aQ FP]) ?_
     try simp only[Act.put,s3]
     refine eO rfl rfl (λW hm=>ld 0 hm rfl rfl rfl (ot rfl) HG1.o) ?_
     try simp only[Act.put,s3]
     refine bj rfl rfl (λW=>by go_simp;rfl) ?_
     try simp only[Act.put,s3]
     refine bj rfl rfl (λW=>by go_simp;rw[aQ FP]) ?_
     try simp only[Act.put,s3]
     refine eO rfl rfl (λW hm=>ld 0 hm rfl rfl rfl (ot rfl) HG0.o) ?_
     try simp only[Act.put,s3]
     refine bj rfl rfl (λW=>by go_simp;(first|rw[aZ _ FP];done|rw[aZ _ FP];rfl|rfl)) ?_
     try simp only[Act.put,s3]
     refine bj rfl rfl (λW=>by go_simp;rw[aQ FP]) ?_
     try simp only[Act.put,s3]
     refine Em rfl rfl (AZ 0 hm rfl rfl (Ac rfl) rfl (ot rfl) HSZ.o rfl rfl HP.o ?_)
     clear hm;intro w hm
     try simp only[puts,s2,List.set,List.eraseIdx,s3]at hm
     refine⟨λW=>Own _ W _ _,hm,?_⟩
     try simp only[Act.put,s3]
     refine Ba ?_;go_simp;go_wp2;exact qf
    .obtain rfl:k=256:=FP
     go_wp2_with(first
      |with_reducible refine tk ?_;(refine Me (l.length+1) hm rfl rfl HF.o rfl rfl FP FP ?_;clear hm;intro w g9 hm))
     have hm0:Own w0 w ((g9,J .i64 (tab (l.length+1) (EX l index 0)))::(g,J .i64 (tab 257 (FK l (Iw index 0))))::rs) ss:=by
      rw[qx]at hm;rw[Gi (f:=EX l index 0) (g:=λ_=>0) (λi _=>by rw[EX,aP FP]),Gi (f:=FK l (Iw index 0)) (g:=G7 l 256) (λi hi=>by rw[FK,G7,aQ FP,show Iw index 0=0 by rw[Iw,aP FP]];simp[eqn])];exact hm
     clear hm;have hm:=hm0;clear hm0
     go_loopw[47] (λu wr=>∃k:Nat,k<=l.length+1/\u=.int .i64 k/\Own w0 wr ((g9,J .i64 (tab (l.length+1) (EX l index k)))::(g,J .i64 (tab 257 (FK l (Iw index k))))::rs) ss) (λu _=>l.length+1-(intOf u).toNat)
     case atStart=>exact⟨0,FP,rfl,hm⟩
     case round=>
      clear hm;obtain⟨k,hk,rfl,hm⟩:=hrel;by_cases hlt:k<l.length+1
      .have q0:decide ((k:Int)<((l.length+1:Nat):Int))=true:=az;have CP:=aa (λw=>Vf ad cp l.length k w h2 FP FP);by_cases hi:k=index
       .rw [aQ hi]at CP
        have HX:Hid (∀W,Own w0 W ((g9,J .i64 (tab (l.length+1) (EX l index k)))::(g,J .i64 (tab 257 (FK l (Iw index k))))::rs) ss->Own w0 W ((g9,J .i64 (tab (l.length+1) (EX l index (k+1))))::(g,J .i64 (tab 257 (FK l (Iw index (k+1)))))::rs) ss):=λW h=>by
         rw[show Iw index (k+1)=Iw index k by simp only[Iw];rw[aQ FP,aP FP];omega,Gi (f:=EX l index (k+1)) (g:=EX l index k)]
         .exact h
         .intro r _;simp only[EX,rowsOf];by_cases h1:r<k
          .rw[aQ h1,aQ FP]
          .rw[aP h1];split
           .rw[aQ FP]
           .rfl
        clear hi;generalize tab (l.length+1) (EX l index k)=T1 at*;generalize tab 257 (FK l (Iw index k))=T2 at*
        go_wp2_with(first
         |go_at_call 72;refine(CP.o _).mono ?_;rintro e w1⟨rfl,rfl⟩)
        go_roundw
        case rel=>exact⟨k+1,FP,by go_num,HX.o _ hm⟩
        case measure=>simp[intOf];omega
       .rw[aP hi]at CP;obtain⟨p,hp⟩:∃p,p=Iw index k:=⟨_,rfl⟩;have hp1:p=if index<k then k-1 else k:=hp
        have hpl:p<l.length:=by split at hp1<;>omega
        have hp2:Iw index (k+1)=p+1:=by rw[Iw];split at hp1<;>split<;>omega
        have hs:=HB.o (gi l p) (by rw[BZ l p hpl];exact dF _);obtain⟨A,rfl,hA0⟩:=HC.o _ hm.dropRow.dropRow p hpl
        have hA:∀W,Own w0 W rs ss->W.cell? (A.add p)=some (.int .u8 (gi l p)):=λW h=>by
         obtain⟨A2,he,h2⟩:=HC.o W h p hpl;cases he;exact h2
        obtain⟨c,hc⟩:=dB hs.1;rw[hc]at hA;have hc1:c<257:=FP
        have w1:IntKind.i64.wrap (c:Int)=c:=av;have hbd:=a1Q l p c;have w3:IntKind.i64.wrap (FK l p c+1)=FK l p c+1:=av;have HP:=aa (kH .i64 (n:=257) (FK l p) (FK l (p+1)) c (FK l p c+1) (λj _=>ZF hpl hc j));have HG:=aa (PU .i64 (FK l p) hc1);have HG2:Hid ((J .i64 (tab 257 (FK l (p+1))))[c]?=some (.int .i64 (FK l p c+1))):=aa (by rw[PU .i64 _ hc1,<-ZF hpl hc,aQ rfl]);have HSZ:Hid (c<(J .i64 (tab 257 (FK l p))).size):=aa Jg
        have HO:Hid ((J .i64 (tab (l.length+1) (EX l index k))).setIfInBounds k (.int .i64 (FK l p c+1))=J .i64 (tab (l.length+1) (EX l index (k+1)))):=aa (kH .i64 _ _ k _ (λj hj=>by
         simp only[EX];by_cases e:j=k
         .subst e;rw[aQ rfl,aQ FP,rowsOf,aP hi,bc,<-hp,hc,FK,gB];omega
         .rw[aP e];by_cases h1:j<k
          .rw[aQ h1,aQ FP]
          .rw[aP h1,aP FP]))
        have HO0:Hid ((J .i64 (tab (l.length+1) (EX l index k))).setIfInBounds (0+k) (.int .i64 (FK l p c+1))=J .i64 (tab (l.length+1) (EX l index (k+1)))):=aa (by rw[dA];exact HO.o);have HOZ:Hid (k<(J .i64 (tab (l.length+1) (EX l index k))).size):=aa (by rw[Df,Lm];exact hlt);have HOZ0:Hid (0+k<(J .i64 (tab (l.length+1) (EX l index k))).size):=aa (by rw[Df,Lm];omega);rw[<-hp]at CP hm;clear hA0 hs hc hbd hp1 hp hi;generalize FK l p c=z at*;generalize hT1:tab 257 (FK l p)=T1 at*;generalize hT2:tab 257 (FK l (p+1))=T2 at*;generalize tab (l.length+1) (EX l index k)=U1 at*;generalize hU2:tab (l.length+1) (EX l index (k+1))=U2 at*
        go_wp2_with(first
         |go_at_call 72;refine(CP.o _).mono ?_;rintro e w1⟨rfl,rfl⟩
         |with_reducible refine cA (t:=22) ?_;(refine A8 rfl (Am rfl HE.o rfl rfl rfl hpl) ?_)
         |with_reducible refine cA (t:=124) ?_;(refine A8 rfl (db (k:=k) rfl HF1.o rfl rfl rfl hlt) ?_)
         |with_reducible refine bh (t:=5) ?_;(refine A8 rfl (AU rfl rfl FV (hA _ hm.dropRow.dropRow)) ?_)
         |with_reducible refine bh (t:=3) ?_;(refine A8 rfl (ld 1 hm rfl rfl rfl (ot rfl) (by first|exact HG.o|exact HG2.o)) ?_)
         |with_reducible refine bE (t:=3) ?_;(first|refine Ad rfl (AZ 1 hm rfl rfl (Ac rfl) rfl (ot rfl) HSZ.o rfl rfl HP.o ?_);clear hm;intro w hm;try simp only[puts,s2,List.set]at hm|refine Ad rfl (AZ 0 hm rfl rfl (Ac rfl) rfl (ot rfl) (by first|exact HOZ.o|exact HOZ0.o) rfl rfl (by first|exact HO.o|exact HO0.o) ?_);clear hm;intro w hm;try simp only[puts,s2,List.set]at hm))
        go_roundw
        case rel=>exact⟨k+1,FP,by go_num,by rw[hU2,hp2,hT2];exact hm⟩
        case measure=>simp[intOf];omega
      .obtain rfl:k=l.length+1:=FP
       have q0:decide (((l.length+1:Nat):Int)<((l.length+1:Nat):Int))=false:=an;rw[Gi (f:=EX l index (l.length+1)) (g:=rowsOf l index) (λi hi=>by rw[EX,aQ hi])]at hm;generalize hU:tab (l.length+1) (rowsOf l index)=U at*;generalize tab 257 (FK l (Iw index (l.length+1)))=T at*;go_wp2;go_ret;exact⟨g9,rfl,by rw[hU];exact hm.sub (jw _ (lV _ _)) (aY _)⟩
end
section
variable{x:Int}{acc l:ac}{ss:O1}{index k n r:Nat}{rs:ae}{w w0:FC}
def eC(l:ac)(index:Nat):Nat->Nat->ac->Option ac
|0,r,acc=>if r=index then some acc else none
|k+1,r,acc=>if r=index then none else eC l index k (bc l (Iw index r)).toNat (gi l (Iw index r)::acc)
def Ng(l:ac)(c:Nat):eqn l c+aT l c<=l.length:=by
 have:=Ll l (c+1);rw[YO]at this;omega
def Zq(h:k<l.length)(c:Nat)(hc:gi l k=c):eqn (l.take k) c+1<=eqn l c:=by
 have h1:=Jm l k h c;rw[aQ hc]at h1
 have h2:eqn (l.take (k+1)) c<=eqn l c:=by
  have:=(List.take_sublist (k+1) l).countP_le (p:=λx:Int=>decide (x=(c:Int)));simp only[eqn];omega
 omega
def oI(hb:Bytes l)(k:Nat)(h:k<l.length):1<=bc l k/\bc l k<=l.length:=by
 have h2:=Fz (l.take k) (gi l k).toNat
 have h1:=Ll l (gi l k).toNat
 have hs:=hb (gi l k) (by rw[BZ l k h];exact dF _);have h3:=Zq h (gi l k).toNat FP;have h4:=Ng l (gi l k).toNat
 rw[bc];omega
def lA(h1:1<=index)(h2:index<=n)(hr:r<=n)(hne:r≠index):Iw index r<n:=by
 rw[Iw];split<;>omega
def txt(n:Nat)(acc:ac):ac:=List.replicate (n-acc.length) 0++acc
def Q4(h:acc.length<n):(txt n acc).set (n-acc.length-1) x=txt n (x::acc):=by
 rw[txt,txt,bD];obtain⟨m,hm⟩:∃m,n-acc.length=m+1:=⟨n-acc.length-1,FP⟩;rw[hm,show n-(acc.length+1)=m by omega,show m+1-1=m by omega,List.replicate_succ',aI,ru _ _ G5];simp
def A0c(h:acc.length<=n):(txt n acc).length=n:=by simp[txt];omega
def aB(w0:FC)(o:Option ac)(n:Nat)(rs:ae)(ss:O1)(x:Ending)(w':FC):Prop:=
 match o with
|none=>x=.returned (.tuple #[.slice none 0 0,.int .i64 170])/\Own w0 w' rs ss
|some t=>∃g,t.length=n/\x=.returned (.tuple #[.slice (some ⟨g,0,none⟩) n n,.int .i64 0])/\Own w0 w' ((g,J .u8 t)::rs) ss
def Agr{v:NY}(hm:Own w0 w rs ss)(hv:∀W,Own w0 W rs ss->In .u8 W v l)(hb:Bytes l)(h1:1<=index)(h2:index<=l.length)(hn:l.length<=1000000):ak 27 #[v,.int .i64 index] w (aB w0 (eC l index l.length 0 []) l.length rs ss):=by
 have CB:Hid (∀{W},Own w0 W rs ss->ak 71 #[v,.int .i64 index] W (λe w'=>∃g,e=.returned (.slice (some ⟨g,0,none⟩) (l.length+1) (l.length+1))/\Own w0 w' ((g,J .i64 (tab (l.length+1) (rowsOf l index)))::rs) ss)):=λh=>fK h hv hb h1 h2 hn;obtain⟨ad,cp,rfl,_⟩:=hv w hm
 have HC:Hid (∀W,Own w0 W rs ss->∀k,k<l.length->∃A,ad=some A/\W.cell? (A.add k)=some (.int .u8 (gi l k))):=λW h k hk=>by
  exact nv
 obtain⟨i3,hE⟩:=Md;have HE:=aa hE;obtain⟨i4,hF⟩:=nP;have HF:=aa hF;obtain⟨i5,hF1⟩:=wM;have HF1:=aa hF1;have HB:=aa hb;have q1:decide ((index:Int)<0)=false:=an;have q2:decide ((l.length:Int)<index)=false:=an;have q3:decide (l.length<index)=false:=an;have q4:((index:Int)==0)=false:=by simp;omega
 have wl:IntKind.i64.wrap ((l.length:Int)-1)=(l.length:Int)-1:=av;obtain⟨o,ho⟩:∃o,o=eC l index l.length 0 []:=⟨_,rfl⟩;rw[<-ho];have HO:=aa ho;clear hE hF hF1 hb hv ho;go_enter func27,ntmps27
 go_wp2_with(first
 |(go_at_call 71;have _t:=hm;refine(CB.o hm).mono ?_;clear _t;clear hm;rintro e w⟨g7,rfl,hm⟩)
 |with_reducible refine tk ?_;(refine Me l.length hm rfl rfl HE.o rfl rfl FP FP ?_;clear hm;intro w g8 hm))
 have hm0:Own w0 w ((g8,J .u8 (txt l.length []))::(g7,J .i64 (tab (l.length+1) (rowsOf l index)))::rs) ss:=by
  rw[Do]at hm;rw[txt];simpa[J,B]using hm
 clear hm;have hm:=hm0;clear hm0
 go_loopw[9,10] (λz u wr=>∃(k r:Nat)(acc:ac),k+acc.length=l.length/\r<=l.length/\u=.int .i64 ((k:Int)-1)/\z=.int .i64 r/\o=eC l index k r acc/\Own w0 wr ((g8,J .u8 (txt l.length acc))::(g7,J .i64 (tab (l.length+1) (rowsOf l index)))::rs) ss) (λ_ u _=>(intOf u+1).toNat)
 case atStart=>exact⟨l.length,0,[],G5,FP,rfl,rfl,HO.o,hm⟩
 case round=>
  clear hm;obtain⟨k,r,acc,hk,hr,rfl,rfl,ho,hm⟩:=hrel;rcases k with _|k
  .have q5:decide ((0:Int)<=((0:Nat):Int)-1)=false:=FU
   rw[eC]at ho;by_cases he:r=index
   .subst he;rw[aQ rfl]at ho;subst ho;have hla:acc.length=l.length:=FP
    have HT:Hid (txt l.length acc=acc):=aa (by rw[txt,hla];simp);rw[HT.o]at hm;have HLA:=aa hla;clear hla;go_wp2
    go_ret2
    exact⟨g8,HLA.o,rfl,hm.sub (jw _ (lV _ _)) (aY _)⟩
   .have q6:((r:Int)==index)=false:=by simp;omega
    have q7:((r:Int) !=index)=true:=by simp;omega
    rw[aP he]at ho;subst ho;clear he;go_wp2
    go_ret2
    exact⟨rfl,hm.dropRow.dropRow⟩
  .have q5:decide ((0:Int)<=((k+1:Nat):Int)-1)=true:=az;have wk:IntKind.i64.wrap (((k+1:Nat):Int)-1-1)=(k:Int)-1:=by rw[aZ _ FP];omega
   have ek:((k+1:Nat):Int)-1=(k:Int):=FP
   rw[ek]at q5 wk⊢;rw[eC]at ho;have CP:=aa (λw=>Vf ad cp l.length r w h2 hr FP);by_cases he:r=index
   .rw[aQ he]at ho CP;subst ho;clear he
    go_wp2_with(first
     |go_at_call 72;refine(CP.o _).mono ?_;rintro e w1⟨rfl,rfl⟩)
    go_ret2
    exact⟨rfl,hm.dropRow.dropRow⟩
   .rw[aP he]at ho CP;obtain⟨p,hp⟩:∃p,p=Iw index r:=⟨_,rfl⟩;have hpl:p<l.length:=by rw[hp];exact lA h1 h2 hr he
    have hab:=oI HB.o p hpl;rw[<-hp]at ho CP;obtain⟨A,rfl,hA0⟩:=HC.o _ hm.dropRow.dropRow p hpl
    have hA:∀W,Own w0 W rs ss->W.cell? (A.add p)=some (.int .u8 (gi l p)):=λW h=>by
     obtain⟨A2,he,h2⟩:=HC.o W h p hpl;cases he;exact h2
    have hrl:r<l.length+1:=FP
    have hkl:k<l.length:=FP
    have HG:Hid ((J .i64 (tab (l.length+1) (rowsOf l index)))[r]?=some (.int .i64 ((bc l p).toNat:Nat))):=aa (by rw[PU .i64 _ hrl,rowsOf,aP he,<-hp,Int.toNat_of_nonneg FP]);have HG0:Hid ((J .i64 (tab (l.length+1) (rowsOf l index)))[0+r]?=some (.int .i64 ((bc l p).toNat:Nat))):=aa (by rw[dA];exact HG.o);have HP:Hid ((J .u8 (txt l.length acc)).setIfInBounds k (.int .u8 (gi l p))=J .u8 (txt l.length (gi l p::acc))):=aa (by rw[Y0,<-Q4 FP,show l.length-acc.length-1=k by omega]);have HP0:Hid ((J .u8 (txt l.length acc)).setIfInBounds (0+k) (.int .u8 (gi l p))=J .u8 (txt l.length (gi l p::acc))):=aa (by rw[dA];exact HP.o);have HZ:Hid (k<(J .u8 (txt l.length acc)).size):=aa (by rw[Df,A0c FP];exact hkl);have HZ0:Hid (0+k<(J .u8 (txt l.length acc)).size):=aa (by rw[dA];exact HZ.o)
    have hra:(bc l p).toNat<=l.length:=FP
    have HN:=aa ho;clear hA0 hab hp he ho;generalize (bc l p).toNat=r2 at*;generalize gi l p=x at*;generalize tab (l.length+1) (rowsOf l index)=U at*
    go_wp2_with(first
     |go_at_call 72;refine(CP.o _).mono ?_;rintro e w1⟨rfl,rfl⟩
     |with_reducible refine cA (t:=22) ?_;(first|refine A8 rfl (Am rfl HE.o rfl rfl rfl hpl) ?_|refine A8 rfl (db (k:=k) rfl HF.o rfl rfl rfl hkl) ?_)
     |with_reducible refine cA (t:=124) ?_;(refine A8 rfl (db (k:=r) rfl HF1.o rfl rfl rfl hrl) ?_)
     |with_reducible refine bh (t:=5) ?_;(refine A8 rfl (AU rfl rfl FV (hA _ hm.dropRow.dropRow)) ?_)
     |with_reducible refine bh (t:=3) ?_;(refine A8 rfl (ld 1 hm rfl rfl rfl (ot rfl) (by first|exact HG.o|exact HG0.o)) ?_)
     |with_reducible refine bE (t:=5) ?_;(refine Ad rfl (AZ 0 hm rfl rfl (Ac rfl) rfl (ot rfl) (by first|exact HZ.o|exact HZ0.o) rfl rfl (by first|exact HP.o|exact HP0.o) ?_);clear hm;intro w hm;try simp only[puts,s2,List.set]at hm))
    go_roundw
    case rel=>exact⟨k,r2,x::acc,by rw[bD];omega,hra,rfl,rfl,HN.o,hm⟩
    case measure=>simp[intOf]
end
section
variable{c live peak x:Int}{l:ac}{ss:O1}{a ga gt gx i n:Nat}{rs:ae}{w w0:FC}
def cnt(g:Nat->Int)(ix:Nat)(c:Int):Nat->Nat
|0=>0
|k+1=>cnt g ix c k+if g k<c\/(g k=c/\k<ix)then 1 else 0
def cnt_le(g:Nat->Int)(ix:Nat)(c:Int):∀k,cnt g ix c k<=k
|0=>aX 0
|k+1=>by rw[cnt];have:=cnt_le g ix c k;split<;>omega
def Cs{col:ac}{ix:Nat}{c:Int}:∀k,k<=ix->k<=col.length->cnt (gi col) ix c k=(col.take k).countP (λb=>decide (b<=c))
|0,_,_=>rfl
|k+1,h,h2=>by
  rw[cnt,Cs k FP FP,kW FP,jJ,uj];have e:gi col k=col[k]:=by simp[gi,List.getD,show k<col.length by omega]
  rw[e]
  congr 1
  by_cases h3:col[k]<=c
  .rw[aQ FP,aQ Ii]
  .rw[aP FP,aP Ii]
def AJ{col:ac}{ix:Nat}{c:Int}(hi:ix<=col.length):∀k,ix+k<=col.length->cnt (gi col) ix c (ix+k)=(col.take ix).countP (λb=>decide (b<=c))+((col.drop ix).take k).countP (λb=>decide (b<c))
|0,_=>by rw[mW,Cs ix (aX _) hi];simp
|k+1,h=>by
  rw[show ix+(k+1)=(ix+k)+1 by omega,cnt,AJ hi k FP,kW Js,jJ,uj,gG];have e:gi col (ix+k)=(col.drop ix)[k]'Js:=by simp[gi,List.getD,show ix+k<col.length by omega]
  rw[e]
  congr 2
  by_cases h3:(col.drop ix)[k]'Js<c
  .rw[aQ FP,aQ Ii]
  .rw[aP FP,aP Ii]
def N0{p:ac×Nat}(h:p.2<=p.1.length):(lO c p).2=1+cnt (gi p.1) p.2 c p.1.length:=by
 have:=AJ (c:=c) h (p.1.length-p.2) FP;rw[show p.2+(p.1.length-p.2)=p.1.length by omega,jC (l:=p.1.drop p.2) Js]at this;rw[lO,this]
def dx(l:ac)(p:Nat):Nat->ac
|0=>l
|k+1=>(dx l p k).set (p+k) (gi (dx l p k) (p+k+1))
def lB(l:ac)(p:Nat):∀k,(dx l p k).length=l.length
|0=>rfl
|k+1=>by rw[dx,cO,lB l p k]
def ol{j:Nat}(h:i<l.length):gi (l.set i x) j=if j=i then x else gi l j:=by
 unfold gi;rw[fU,mM,fU];split
 .rename_i e;subst e;simp[h]
 .rename_i e;rw[aP (o9 e)]
def qz(l:ac)(p:Nat):∀k,p+k<l.length->∀j,gi (dx l p k) j=if p<=j/\j<p+k then gi l (j+1)else gi l j
|0,_,j=>by rw[dx,aP FP]
|k+1,h,j=>by
  rw[dx,ol Jt,qz l p k FP,qz l p k FP];by_cases e:j=p+k
  .subst e;rw[aQ rfl,aP FP,aQ FP]
  .rw[aP e];split
   .rw[aQ FP]
   .rw[aP FP]
def zq(h:Bytes l)(hx:0<=x/\x<256):Bytes (l.set i x):=λy hy=>(kV hy).elim (h y) λe=>e▸hx
def xy{l:ac}(h:Bytes l)(p:Nat):∀k,p+k<l.length->Bytes (dx l p k)
|0,_=>h
|k+1,hk=>zq (xy h p k FP) (xy h p k FP _ (cI _ _ Jt))
@[reducible] def TRr (ga:Nat) (a n:Int):ai:=#[ga,.int .i64 a,.int .i64 n]
@[reducible] def ipR (gt ga gx a n:Nat) (live peak:Int) (l:ac) (rs:ae):ae:=(gt,TRr ga a n)::(ga,AR (.slice gx l.length l.length) live peak)::(gx,B l)::rs
def zm(i:Nat)(hm:Own w0 w (ipR gt ga gx a n live peak l rs) ss)(h1:(a:Int)+n<=live)(h2:live<=l.length)(h3:l.length<=1048576)(h4:i<n):ak 253 #[gt,.int .i64 i] w (RO (.int .u8 (gi l (a+i))) w0 (ipR gt ga gx a n live peak l rs) ss):=by
 go_enter func253,ntmps253
 go_wp2_with(first
 |go_at_call 116;refine cB (k8 ga a n i l live peak (hm.row 1 rfl) (hm.row 2 rfl) h1 h2 h3 h4) hm ?_;clear hm;intro w1 hm
 |refine U ?_;try(clear hm;intro w g hm))
 exact gR
def AhW(i ix:Nat)(rs:ae)(hm:Own w0 w (ipR gt ga gx a n live peak l rs) ss)(h1:(a:Int)+n<=live)(h2:live<=l.length)(h3:l.length<=1048576)(h4:i<n)(h5:i+ix<n)(hb:Bytes l):ak 223 #[gt,.int .i64 i,.int .i64 ix] w (RO (.int .i64 (1+(cnt (λk=>gi l (a+i+1+k)) ix (gi l (a+i)) (n-i-1):Int))) w0 (ipR gt ga gx a n live peak ((dx l (a+i) ix).set (a+i+ix) (gi l (a+i))) rs) ss):=by
 have hc:=λj(h:j<l.length)=>hb _ (cI l j h);have HC:=aa hc;clear hb hc;go_enter func223,ntmps223
 go_wp2_with(first
 |go_at_call 253;refine MP (zm i hm h1 h2 h3 h4) ?_;clear hm;intro w1 hm
 |refine U ?_;try(clear hm;intro w g hm))
 go_loopw[8,23] (λz u wr=>∃k:Nat,k<=n-i-1/\u=.int .i64 k/\z=.int .i64 (1+(cnt (λk=>gi l (a+i+1+k)) ix (gi l (a+i)) k:Int))/\Own w0 wr (ipR gt ga gx a n live peak l rs) ss) (λ_ u _=>n-(intOf u).toNat)
 case atStart=>exact⟨0,FP,rfl,rfl,hm⟩
 case round=>
  clear hm;obtain⟨k,hk,rfl,rfl,hm⟩:=hrel;have hcl:=cnt_le (λk=>gi l (a+i+1+k)) ix (gi l (a+i)) k;rcases bF k (n-i-1)with hlt|hge
  .have hb:=HC.o (a+i+1+k) FP;have hc:=HC.o (a+i) FP
   have CA:Hid (∀W,Own w0 W (ipR gt ga gx a n live peak l rs) ss->ak 253 #[gt,.int .i64 ((i:Int)+1+k)] W (RO (.int .u8 (gi l (a+i+1+k))) w0 (ipR gt ga gx a n live peak l rs) ss)):=λW h=>by
    rw[show((i:Int)+1+k)=((i+1+k:Nat):Int) by omega,show a+i+1+k=a+(i+1+k) by omega];exact zm (i+1+k) h h1 h2 h3 FP
   have hx:(gi l (a+i+1+k)<gi l (a+i)/\cnt (λk=>gi l (a+i+1+k)) ix (gi l (a+i)) (k+1)=cnt (λk=>gi l (a+i+1+k)) ix (gi l (a+i)) k+1)\/(gi l (a+i+1+k)=gi l (a+i)/\k<ix/\cnt (λk=>gi l (a+i+1+k)) ix (gi l (a+i)) (k+1)=cnt (λk=>gi l (a+i+1+k)) ix (gi l (a+i)) k+1)\/(gi l (a+i+1+k)=gi l (a+i)/\ix<=k/\cnt (λk=>gi l (a+i+1+k)) ix (gi l (a+i)) (k+1)=cnt (λk=>gi l (a+i+1+k)) ix (gi l (a+i)) k)\/(gi l (a+i)<gi l (a+i+1+k)/\cnt (λk=>gi l (a+i+1+k)) ix (gi l (a+i)) (k+1)=cnt (λk=>gi l (a+i+1+k)) ix (gi l (a+i)) k):=by
    rw[cnt];rcases vw (gi l (a+i+1+k)) (gi l (a+i))with h|h|h
    .exact .inl ⟨h,by rw[aQ (.inl h)]⟩
    .rcases bF k ix with h'|h'
     .exact .inr (.inl ⟨h,h',by rw[aQ (.inr ⟨h,h'⟩)]⟩)
     .exact .inr (.inr (.inl ⟨h,h',by rw[aP FP];rfl⟩))
    .exact .inr (.inr (.inr ⟨h,by rw[aP FP];rfl⟩))
   rcases hx with⟨hx,hz⟩|⟨hx,hx2,hz⟩|⟨hx,hx2,hz⟩|⟨hx,hz⟩
   all_goals
    have HZ:=aa hz;clear hz
    go_wp2_with(first
    |go_at_call 253;refine MP (CA.o _ hm) ?_;clear hm;intro w1 hm
    |refine U ?_;try(clear hm;intro w g hm))
    go_roundw
    case rel=>exact⟨k+1,FP,by go_num,(by rw[HZ.o];try go_num),hm⟩
    case measure=>simp[intOf];omega
  .have HK:Hid (k=n-i-1):=aa FP;go_wp2
   go_loopw[49] (λu wr=>∃k:Nat,k<=ix/\u=.int .i64 k/\Own w0 wr (ipR gt ga gx a n live peak (dx l (a+i) k) rs) ss) (λu _=>ix-(intOf u).toNat)
   case atStart=>exact⟨0,FP,rfl,hm⟩
   case round=>
    clear hm hcl hk hge;obtain⟨k,hk2,rfl,hm⟩:=hrel;have hl:=lB l (a+i) k;rcases bF k ix with hlt|hge
    .have e:(dx l (a+i) k).set (a+(i+k)) (gi (dx l (a+i) k) (a+(i+k+1)))=dx l (a+i) (k+1):=by
      rw[show a+(i+k)=a+i+k by omega,show a+(i+k+1)=a+i+k+1 by omega];rfl
     have CA:Hid (∀W,Own w0 W (ipR gt ga gx a n live peak (dx l (a+i) k) rs) ss->ak 253 #[gt,.int .i64 ((i:Int)+k+1)] W (RO (.int .u8 (gi (dx l (a+i) k) (a+(i+k+1)))) w0 (ipR gt ga gx a n live peak (dx l (a+i) k) rs) ss)):=λW h=>by
      rw[show((i:Int)+k+1)=((i+k+1:Nat):Int) by omega];exact zm (i+k+1) h h1 FP FP FP
     have CS:Hid (∀W,Own w0 W (ipR gt ga gx a n live peak (dx l (a+i) k) rs) ss->ak 189 #[ga,.agg (SP a n),.int .i64 ((i:Int)+k),.int .u8 (gi (dx l (a+i) k) (a+(i+k+1)))] W (RO (.bool true) w0 (ipR gt ga gx a n live peak (dx l (a+i) (k+1)) rs) ss)):=λW h=>by
      rw[show((i:Int)+k)=((i+k:Nat):Int) by omega];refine(sM a (i+k) _ (gi (dx l (a+i) k) (a+(i+k+1))) live peak 1 2 h rfl rfl h1 FP FP FP).mono ?_;rintro e w'⟨rfl,h⟩;rw[e]at h;exact⟨rfl,by rw[ipR,lB,<-lB l (a+i) k];exact h⟩
     clear e hl
     go_wp2_with(first
     |go_at_call 253;refine MP (CA.o _ hm) ?_;clear hm;intro w1 hm
     |go_at_call 189;refine MP (CS.o _ hm) ?_;clear hm;intro w1 hm
     |refine uT [16] [] hm ?_;clear hm;intro w _ hm
     |refine U ?_;try(clear hm;intro w g hm))
     exact Bs
    .obtain rfl:k=ix:=FP
     go_wp2_with(first
     |go_at_call 189;rw[show((i:Int)+k)=((i+k:Nat):Int) by omega];refine MP (sM a (i+k) _ (gi l (a+i)) live peak 1 2 hm rfl rfl h1 FP FP FP) ?_;clear hm;intro w1 hm
     |refine U ?_;try(clear hm;intro w g hm))
     go_ret;refine⟨by rw[<-HK.o];rfl,?_⟩;rw[ipR,cO,gG];exact hm
end
section
variable{c:OA}{live peak:Int}{l l' m:ac}{ss:O1}{a ga gx n:Nat}{u x y z:O9}{o:Oz}{rs:ae}{w w0:FC}
def pu:∀x:ac,(cF x).1.length=x.length/\(cF x).2<=x.length
|[]=>⟨rfl,aX 0⟩
|c::t=>by
  obtain⟨h1,h2⟩:=pu t;have e:=cnt_le (gi (cF t).1) (cF t).2 c (cF t).1.length;rw[cF,N0 FP];simp[lO];omega
def IA(h:l.length=m.length)(h2:∀i,i<l.length->gi l i=gi m i):l=m:=by
 refine qA h λi h3 h4=>?_;have:=h2 i h3;rwa[BZ l i h3,BZ m i h4]at this
def F4{g g':Nat->Int}{ix:Nat}{c:Int}:∀{k:Nat},(∀i,i<k->g i=g' i)->cnt g ix c k=cnt g' ix c k
|0,_=>rfl
|k+1,h=>by rw[cnt,cnt,F4 (k:=k) (λi hi=>h i FP),h k FP]
structure mc(l l':ac)(a n j ix:Nat):Prop where
 len:l'.length=l.length
 byt:Bytes l'
 jn:j<=n
 col:seg l' (a+(n-j)) (a+n)=(cF ((seg l a (a+n)).drop (n-j))).1
 ix:ix=(cF ((seg l a (a+n)).drop (n-j))).2
 oth:∀k,k<a+(n-j)\/a+n<=k->gi l' k=gi l k
def mc.start(hb:Bytes l)(h:a+n<=l.length):mc l l a n 0 0:=by
 have e:(seg l a (a+n)).drop (n-0)=[]:=qh (by rw[QJ h];omega);refine⟨rfl,hb,FP,?_,by rw[e];rfl,λ_ _=>rfl⟩;rw[e];exact qh H9
def mc.step{j ix:Nat}(hi:mc l l' a n j ix)(hj:j<n)(h:a+n<=l.length):
  ix<=j/\mc l ((dx l' (a+(n-1-j)) ix).set (a+(n-1-j)+ix) (gi l' (a+(n-1-j)))) a n (j+1) (1+cnt (λk=>gi l' (a+(n-1-j)+1+k)) ix (gi l' (a+(n-1-j))) j):=by
 obtain⟨i,hin⟩:∃i,i=n-1-j:=⟨_,rfl⟩;rw[<-hin];have hx:(seg l a (a+n)).length=n:=by rw[QJ h];omega
 have hi1:n-j=i+1:=FP
 have hi2:n-(j+1)=i:=FP
 have hl:=hi.len;have hcol:=hi.col;have hix:=hi.ix;rw[hi1]at hcol hix;have hcl:(seg l' (a+(i+1)) (a+n)).length=j:=by rw[QJ FP];omega
 have hdl:((seg l a (a+n)).drop (i+1)).length=j:=by rw[dQ];omega
 have hixj:ix<=j:=by have:=(pu ((seg l a (a+n)).drop (i+1))).2;omega
 have hg:∀k,k<j->gi (seg l' (a+(i+1)) (a+n)) k=gi l' (a+i+1+k):=λk hk=>by
  rw[zS FP FP];congr 1
 have hc:gi l' (a+i)=gi (seg l a (a+n)) i:=by rw[hi.oth _ FP,zS h FP]
 have hd:(seg l a (a+n)).drop i=gi l' (a+i)::(seg l a (a+n)).drop (i+1):=by
  rw[jg FP,hc,BZ _ _ FP]
 have hT:cF ((seg l a (a+n)).drop i)=lO (gi l' (a+i)) (seg l' (a+(i+1)) (a+n),ix):=by
  rw[hd,cF,hcol,hix]
 refine⟨hixj,⟨by rw[cO,lB];exact hl,zq (xy hi.byt _ _ FP) (hi.byt _ (cI _ _ FP)),FP,?_,?_,λk hk=>?_⟩⟩
 .rw[hi2,hT,lO];have hs:=QJ (l:=(dx l' (a+i) ix).set (a+i+ix) (gi l' (a+i))) (i:=a+i) (k:=a+n) (by rw[cO,lB];omega);refine IA (by rw[hs];simp[hcl];omega) λk hk=>?_;rw[hs]at hk;rw[zS (by rw[cO,lB];omega) hk,ol Jt,qz _ _ _ FP];simp only;rcases qX k ix with h3|h3|h3
  .rw[aP FP,aQ FP];have:=hg k FP;simp only[gi,fU]at this⊢;rw[kF H9,nH h3,this]
   congr 2;omega
  .subst h3;rw[aQ rfl];simp only[gi,fU];rw[lW H9,fZ,hcl,qP FP,iV];rfl
  .rw[aP FP,aP FP];have:=hg (k-1) FP;simp only[gi,fU]at this⊢;rw[lW H9,fZ,hcl,qP FP,show k-ix=(k-1-ix)+1 by omega,l7,qB,show ix+(k-1-ix)=k-1 by omega,this]
   congr 2;omega
 .rw[hi2,hT,N0 (by simp only;omega)];simp only[hcl]
  congr 1
  exact(F4 λk hk=>hg k hk).symm
 .rw[ol Jt,aP FP,qz _ _ _ FP,aP FP];exact hi.oth k FP
def Ah5{d:NY}(hr:AA w ga (AR d live peak))(h1:(a:Int)+n<=live)(h3:live<=1048576)(h4:0<n)(h5:n<=65536):ak 222 #[ga,.agg (SP a n)] w (RB w (.bool true)):=by
 have HR:=aa hr.keep;have q1:decide ((n:Int)<=65536)=true:=az;clear hr;go_enter func222,ntmps222;exact M0
def Own.mv2(h:Own w0 w (x::y::z::u::rs) ss):Own w0 w (x::z::u::y::rs) ss:=
 h.perm (.cons _ ((jr _ (fM _ _ _)).trans (fM _ _ _)))
def Own.a1T(h:Own w0 w (x::y::z::rs) ss):Own w0 w (x::y::rs) ss:=
 Own.dropRow (h.perm ((fM _ _ _).trans (.cons _ (fM _ _ _))))
def Vd{x y:O7}(ho:o.op=.build 309 #[(0,x),(1,y)]){a n:Int}(hx:c.eval x=.pointer ga)(hy:c.eval y=.agg (SP a n)):(execOp c.eval o).run prog w=.ok (.value (.agg (TRr ga a n))) w:=
 Dq ho GV
def Xz(a:Nat)(l:ac)(hm:Own w0 w ((ga,AR (.slice gx l.length l.length) live peak)::(gx,B l)::rs) ss)(h1:(a:Int)+n<=live)(h2:live<=l.length)(h3:l.length<=1048576)(h4:0<n)(h5:n<=65536)(hb:Bytes l):ak 186 #[ga,.agg (SP a n)] w λe w'=>∃(ix:Nat)(st:Int)(l':ac),e=.returned (.tuple #[.int .i64 ix,.int .i64 st,.int .i64 0])/\mc l l' a n n ix/\Own w0 w' ((ga,AR (.slice gx l'.length l'.length) live peak)::(gx,B l')::rs) ss:=by
 have h0:=mc.start (n:=n) hb (show a+n<=l.length by omega);have H0:=aa h0;clear hb h0;go_enter func186,ntmps186
 go_wp2_with(first
 |go_at_call 222;refine cB (Ah5 (hm.row 1 rfl) h1 FP h4 h5) hm ?_;clear hm;intro w1 hm
 |((with_reducible refine cS (t:=309) ?_);refine A8 rfl (Vd rfl rfl rfl) ?_)
 |refine U ?_;try(clear hm;intro w g hm))
 replace hm:=hm.mv2;rename_i g0 _ _
 go_loopw[4,5,8] (λx y z wr=>∃(j ix:Nat)(st:Int)(l':ac),j<=n/\x=.int .i64 ix/\y=.int .i64 st/\z=.int .i64 ((n:Int)-1-j)/\mc l l' a n j ix/\0<=st/\st<=j*200000/\Own w0 wr (ipR g ga gx a n live peak l' ((g0,SP a n)::rs)) ss) (λ_ _ z _=>(intOf z+1).toNat)
 case atStart=>exact⟨0,0,0,l,FP,rfl,rfl,by go_num,H0.o,FP,FP,hm⟩
 case round=>
  clear hm H0;obtain⟨j,ix,st,l',hj,rfl,rfl,rfl,hI,s0,s1,hm⟩:=hrel;rcases bF j n with hlt|hge
  .obtain⟨hix,hI2⟩:=hI.step hlt FP;have HI2:=aa hI2
   have CC:Hid (∀W,Own w0 W (ipR g ga gx a n live peak l' ((g0,SP a n)::rs)) ss->ak 223 #[g,.int .i64 ((n:Int)-1-j),.int .i64 ix] W (RO (.int .i64 (1+(cnt (λk=>gi l' (a+(n-1-j)+1+k)) ix (gi l' (a+(n-1-j))) j:Int))) w0 (ipR g ga gx a n live peak ((dx l' (a+(n-1-j)) ix).set (a+(n-1-j)+ix) (gi l' (a+(n-1-j)))) ((g0,SP a n)::rs)) ss)):=λW h=>by
    have hl:=hI.len;have:=AhW (n-1-j) ix ((g0,SP a n)::rs) h h1 FP FP FP FP hI.byt;rw[show n-(n-1-j)-1=j by omega,show(((n-1-j:Nat)):Int)=(n:Int)-1-j by omega]at this;exact this
   clear hI hI2
   go_wp2_with(first
   |go_at_call 223;refine MP (CC.o _ hm) ?_;clear hm;intro w1 hm
   |refine U ?_;try(clear hm;intro w g hm))
   go_roundw
   case rel=>exact⟨j+1,_,_,_,FP,by go_num,rfl,by go_num,HI2.o,FP,FP,hm⟩
   case measure=>simp[intOf];omega
  .obtain rfl:j=n:=FP
   have HI:=aa hI;clear hI;go_wp2;refine aD (fO rfl _ _ _) rfl ?_;exact⟨_,_,_,rfl,HI.o,hm.dropRow.a1T⟩
end
open Go Go.RowKit
section
variable{lb:ai}{Q:Exit->aJ}{gf id l l0:Nat}{g:O7}
section
variable{P:O8}{w:FC}{a:OA}{o:Oz}{ops:bl}
def Sj{n:Nat}{K:aJ}(hd:∀c,o.op≠.defer c)(h:o.wp P a w K Q):o.wpIn (Fence.wide.inRound l) n P a w K Q:=by
 refine⟨λ_ _=>trivial,?_⟩;rw[show(Fence.wide.inRound l).round=some l from rfl,oD l a.eval o hd];unfold Oper.wp at h;cases hr:(execOp a.eval o).run P w with
|ok nx w'=>
  rw[hr]at h;cases nx
  case enter f args=>exact⟨λhh=>(by cases hh),CallsIn.inRound l (oH.2 h)⟩
  case row row args=>
   refine⟨λhh=>(by cases hh),λc cs _=>?_⟩;obtain⟨v,w2,h1,h2⟩:=h c cs;exact⟨v,w2,h1,stepsIn_wide.2 h2⟩
  all_goals first|exact h|exact h.elim
|halt x w'=>
  rw[hr]at h;cases x<;>first|exact h|exact h.elim
def Gb{l0 n:Nat}{Q:Exit->aJ}(hq:¬LetsOut Q):∀(l:bt),(∀o∈l,∀c,o.op≠.defer c)->∀a w,wpList P ops Q l a w->wpListIn (Fence.wide.inRound l0) n P ops Q l a w
|[],_,a,w,h=>wpListIn_nil (by simpa[wpList]using h)
|o::l,hd,a,w,h=>by
  have ih:=Gb (l0:=l0) (n:=n) (Q:=Q) hq l (λo' ho=>hd o' (fB _ ho));simp only[wpList]at h;unfold wpListIn;cases hw:Region.wanted o (yielded ops a.tmps)with
 |true=>
   rw[hw]at h;simp only[fP]at h⊢;exact Sj (hd o G5) (Oper.wp_mono (λa w h=>ih a w h) (h.resolve_right λh2=>hq h2.2))
 |false=>
   rw[hw]at h;exact⟨λ_ _=>trivial,ih _ _ GU⟩
def Rd(l:bt):Bool:=l.all λo=>match o.op with|.defer _=>false|_=>true
def C6{n:Nat}{l:bt}(hq:¬LetsOut Q)(hd:Rd l=true)(h:wpList P l.toArray Q l a w):(Code.region id l.toArray false).wpIn (Fence.wide.inRound l0) n P Q a w:=
 wpIn_region_list (Gb hq l (λo ho c hc=>by
  have:=iP.1 hd o ho;rw[hc]at this
  cases this) a w h)
end
section
variable{F:Fence}{n:Nat}{P:O8}
def R6(B Bn:Nat)(I:ac->FC->Prop)(xs:ac)(W:FC):Exit->aJ
|.normal,_,W'=>KeepsFrom B W W'/\(∀v,W.cell? ⟨Bn,0,none⟩=some v->W'.cell? ⟨Bn,0,none⟩=some v/\W'.frozen? ⟨Bn,0,none⟩=false)/\I xs W'
|_,_,_=>False
def Sh(f:Int->Value){ps:Array Tmp}{assign body:Code}{a:OA}{w:FC}(hro:F.round=none)(h1:1<=n)(hg:a.eval g=.func (.func gf) #[] lb)(hFg:F.fn gf)
  (eg:∀args w,(callFunc gf args).run P w=.ok (.enter gf args) w)(hps:ps.size=1)(Bn:Nat)(hBn:Bn<w.heap.size)(xs:ac)(I:ac->FC->Prop)
  (hseq:∀(l:Nat)(J:ac->FC->Prop)(W:FC),(∀k,k<w.heap.size->W.heap[k]?=w.heap[k]?)->(∀pre A,J pre A->I pre A)->(∀pre A v,J pre A->J pre (A.setCell ⟨Bn,0,none⟩ v))->
   (∀pre x W1,J pre W1->pre.length<xs.length->YieldAt F (n-1-1) P l #[f x] W1 λe W'=>e=.returned (.bool true)/\J (pre++[x]) W'/\∀v,W1.cell? ⟨Bn,0,none⟩=some v->W'.cell? ⟨Bn,0,none⟩=some v/\W'.frozen? ⟨Bn,0,none⟩=false)->
   J [] W->CallsIn F (n-1) P gf (#[.func (.yield l) #[] #[]]++lb) W λe W'=>(∃v,e=.returned v)/\J xs W')
  (hI:OwnFrom w.heap.size I)(hIs:∀pre A v,I pre A->I pre (A.setCell ⟨Bn,0,none⟩ v))(h0:I [] w)(a₁:Int->Act)
  (hassign:∀(l:Nat)(x:Int)(W:FC)(K:aJ),K (a₁ x) W->
   assign.wpIn (F.inRound l) (n-1-1) P (Exit.then K (λ_ _ _=>False)) {tmps:=(ps.zip #[f x]).foldl (λt(p,v)=>t.setIfInBounds p v) a.tmps,defers:=[]} W)
  (hbody:∀(l:Nat)(pre:ac)(x:Int)(W:FC),I pre W->pre.length<xs.length->body.wpIn (F.inRound l) (n-1-1) P (R6 w.heap.size Bn I (pre++[x]) W) (a₁ x) W)
  (hdone:∀(D:Nat)(W:FC),w.heap.size<=D->I xs W->W.heap[D]?=some (.deferred (some []))->Q .normal {a with defers:={target:=.collected D,args:=#[]}::a.defers} W):
  (Code.rangeFunc g ps assign body).wpIn F n P Q a w:=by
 refine wpIn_rangeFunc ?_;intro fn hfn;rw[hro]
 let L:Nat:=w.heap.size+1
 let rec':LoopState->Option Code->Loop:=λst pe=>{state:=st,pending:=pe,fn,tmps:=a.tmps,params:=ps,assign,body,defers:=w.heap.size}
 let R:FC->Prop:=λW=>W.heap[L]?=some (.loop (rec' .ready none))/\W.heap[w.heap.size]?=some (.deferred (some []))
 let W1:FC:=(w.alloc (.deferred (some []))).alloc (.loop (rec' .ready none))
 have hR1:R W1:=by
  exact Gr
 have hI1:I [] W1:=hI.alloc _ (hI.alloc _ h0);have hB1:∀k,k<w.heap.size->W1.heap[k]?=w.heap[k]?:=λk hk=>(Below.heap_alloc _ _ _ G8).trans (Below.heap_alloc _ _ _ hk);refine⟨L,[{target:=.collected w.heap.size,args:=#[]}],W1,{target:=.fn (.func gf) lb,args:=#[.func (.yield L) #[] #[]]},W1,gf,#[.func (.yield L) #[] #[]]++lb,W1,run_enterLoop_outer _ _ _ _ _,?_,?_,?_,λ_=>h1,?_⟩
 .simp only[resolve,hg];simp[go_sem]
 .exact N6
 .simp[invoke,go_sem,eg]
 have hset:∀(A:FC)(v:NY)(k:Nat),Bn<k->(A.setCell ⟨Bn,0,none⟩ v).heap[k]?=A.heap[k]?:=λA v k hk=>Below.heap_setCell A _ v k (by show k≠Bn;omega);refine(hseq L (λpre W=>I pre W/\R W) W1 hB1 (λpre A h=>h.1) (λpre A v h=>⟨hIs pre A v h.1,(hset A v _ FP).trans h.2.1,(hset A v _ hBn).trans h.2.2⟩) ?_ ⟨hI1,hR1⟩).mono ?_
 .rintro pre x W⟨hi,hl,hk⟩hlen;have hlt:L<W.heap.size:=(ji.1 hl).1;have hy:=run_yield (P:=P) (args:=#[f x]) hl (by show _=ps.size;rw[hps];rfl);refine⟨fn,_,assign,body,hy,roundIn_of_wpIn hfn (hassign _ x W _ ⟨_,run_beginRound hl rfl,?_⟩)⟩
  let W2:FC:=W.putObj L (.loop {rec' .ready none with state:=.busy})
  have hl2:W2.heap[L]?=some (.loop {rec' .ready none with state:=.busy}):=World.putObj_heap_same hlt;have hk2:W2.heap[w.heap.size]?=some (.deferred (some [])):=(World.putObj_heap_other FP).trans hk;have hb2:W2.heap[Bn]?=W.heap[Bn]?:=World.putObj_heap_other FP;refine wpIn_mono (hbody _ pre x W2 (hI.putObj _ hi FP hl rfl) hlen) ?_;rintro e a3 W3 hp;cases e with
 |normal=>
   obtain⟨hk3,hb3,hi3⟩:=hp;have hl3:=hk3.same L _ FP hl2 rfl;refine⟨_,_,run_endRound (P:=P) none hl3,rfl,⟨hI.putObj _ hi3 FP hl3 rfl,World.putObj_heap_same (ji.1 hl3).1,(World.putObj_heap_other FP).trans (hk3.same _ _ (aX _) hk2 rfl)⟩,?_⟩;intro v hv;obtain⟨q1,q2⟩:=hb3 v ((rQ (a:=⟨Bn,0,none⟩) hb2).trans hv);exact⟨(rQ (a:=⟨Bn,0,none⟩) (World.putObj_heap_other (show Bn≠L by omega))).trans q1,(xY (a:=⟨Bn,0,none⟩) (World.putObj_heap_other (show Bn≠L by omega))).trans q2⟩
 |ret=>exact hp.elim
 |exit id=>exact hp.elim
 |goto t=>exact hp.elim
 |panic ch=>exact hp.elim
 |outgrown=>exact hp.elim
 .exact Nf
def Px(B:Nat)(I:ac->FC->Prop)(xs:ac)(W:FC):Exit->aJ
|.normal,_,W'=>KeepsFrom B W W'/\I xs W'
|_,_,_=>False
def Ve(f:Int->Value){ps:Array Tmp}{assign body:Code}{a:OA}{w:FC}(hro:F.round=none)(h1:1<=n)(hg:a.eval g=.func (.func gf) #[] lb)(hFg:F.fn gf)
  (eg:∀args w,(callFunc gf args).run P w=.ok (.enter gf args) w)(hps:ps.size=1)(xs:ac)(I:ac->FC->Prop)
  (hseq:∀(l:Nat)(J:ac->FC->Prop)(W:FC),(∀k,k<w.heap.size->W.heap[k]?=w.heap[k]?)->(∀pre A,J pre A->I pre A)->
   (∀pre x W1,J pre W1->(∃suf,xs=pre++x::suf)->YieldAt F (n-1-1) P l #[f x] W1 λe W'=>e=.returned (.bool true)/\J (pre++[x]) W')->
   J [] W->CallsIn F (n-1) P gf (#[.func (.yield l) #[] #[]]++lb) W λe W'=>(∃v,e=.returned v)/\J xs W')
  (hI:OwnFrom w.heap.size I)(h0:I [] w)(a₁:Int->Act)
  (hassign:∀(l:Nat)(x:Int)(W:FC)(K:aJ),K (a₁ x) W->
   assign.wpIn (F.inRound l) (n-1-1) P (Exit.then K (λ_ _ _=>False)) {tmps:=(ps.zip #[f x]).foldl (λt(p,v)=>t.setIfInBounds p v) a.tmps,defers:=[]} W)
  (hbody:∀(l:Nat)(pre:ac)(x:Int)(W:FC),I pre W->(∃suf,xs=pre++x::suf)->body.wpIn (F.inRound l) (n-1-1) P (Px w.heap.size I (pre++[x]) W) (a₁ x) W)
  (hdone:∀(D:Nat)(W:FC),w.heap.size<=D->I xs W->W.heap[D]?=some (.deferred (some []))->Q .normal {a with defers:={target:=.collected D,args:=#[]}::a.defers} W):
  (Code.rangeFunc g ps assign body).wpIn F n P Q a w:=by
 refine wpIn_rangeFunc ?_;intro fn hfn;rw[hro]
 let L:Nat:=w.heap.size+1
 let rec':LoopState->Option Code->Loop:=λst pe=>{state:=st,pending:=pe,fn,tmps:=a.tmps,params:=ps,assign,body,defers:=w.heap.size}
 let R:FC->Prop:=λW=>W.heap[L]?=some (.loop (rec' .ready none))/\W.heap[w.heap.size]?=some (.deferred (some []))
 let W1:FC:=(w.alloc (.deferred (some []))).alloc (.loop (rec' .ready none))
 have hR1:R W1:=by
  exact Gr
 have hI1:I [] W1:=hI.alloc _ (hI.alloc _ h0);have hB1:∀k,k<w.heap.size->W1.heap[k]?=w.heap[k]?:=λk hk=>(Below.heap_alloc _ _ _ G8).trans (Below.heap_alloc _ _ _ hk);refine⟨L,[{target:=.collected w.heap.size,args:=#[]}],W1,{target:=.fn (.func gf) lb,args:=#[.func (.yield L) #[] #[]]},W1,gf,#[.func (.yield L) #[] #[]]++lb,W1,run_enterLoop_outer _ _ _ _ _,?_,?_,?_,λ_=>h1,?_⟩
 .simp only[resolve,hg];simp[go_sem]
 .exact N6
 .simp[invoke,go_sem,eg]
 refine(hseq L (λpre W=>I pre W/\R W) W1 hB1 (λpre A h=>h.1) ?_ ⟨hI1,hR1⟩).mono ?_
 .rintro pre x W⟨hi,hl,hk⟩hlen;have hlt:L<W.heap.size:=(ji.1 hl).1;have hy:=run_yield (P:=P) (args:=#[f x]) hl (by show _=ps.size;rw[hps];rfl);refine⟨fn,_,assign,body,hy,roundIn_of_wpIn hfn (hassign _ x W _ ⟨_,run_beginRound hl rfl,?_⟩)⟩
  let W2:FC:=W.putObj L (.loop {rec' .ready none with state:=.busy})
  have hl2:W2.heap[L]?=some (.loop {rec' .ready none with state:=.busy}):=World.putObj_heap_same hlt;have hk2:W2.heap[w.heap.size]?=some (.deferred (some [])):=(World.putObj_heap_other FP).trans hk;refine wpIn_mono (hbody _ pre x W2 (hI.putObj _ hi FP hl rfl) hlen) ?_;rintro e a3 W3 hp;cases e with
 |normal=>
   obtain⟨hk3,hi3⟩:=hp;have hl3:=hk3.same L _ FP hl2 rfl;refine⟨_,_,run_endRound (P:=P) none hl3,rfl,⟨hI.putObj _ hi3 FP hl3 rfl,World.putObj_heap_same (ji.1 hl3).1,(World.putObj_heap_other FP).trans (hk3.same _ _ (aX _) hk2 rfl)⟩⟩
 |ret=>exact hp.elim
 |exit id=>exact hp.elim
 |goto t=>exact hp.elim
 |panic ch=>exact hp.elim
 |outgrown=>exact hp.elim
 .exact Nf
end
end
open Go Tryz Go.RowKit Go.Shelf
attribute [local go_sem] oD
def i9(way:Int):Nat->ac
|0=>[0]
|k+1=>1::way::i9 way k
def fk(was now:Int):ac:=i9 (if now<was then 1 else 0) (was-now).natAbs
def pf(way:Int):∀k,(i9 way k).length=2*k+1
|0=>rfl
|k+1=>by rw[i9,bD,bD,pf way k];omega
def qR(B:Nat)(W:FC):Int:=match W.cell? ⟨B,0,none⟩with|some (.int _ z)=>z|_=>0
def sb{B:Nat}{W:FC}{q:Ob}{m:Int}(h:W.cell? ⟨B,0,none⟩=some (.int q m)):qR B W=m:=by
 rw[qR,h]
def a0j(F:Fence)(n:Nat)(h262:F.fn 262)(hro:F.round=none)(hn:1<=n){l:Nat}(Bm:Nat){Bn:Nat}{was now:Nat}(h0':was<=255)(h1':now<=255)(J:ac->FC->Prop){W:FC}
  (hc:W.cell? ⟨Bn,0,none⟩=some (.int .i64 was))(hf:W.frozen? ⟨Bn,0,none⟩=false)(hJm:∀pre A,J pre A->A.cell? ⟨Bm,0,none⟩=some (.int .i64 now))(hJ:∀pre A v,J pre A->J pre (A.setCell ⟨Bn,0,none⟩ v))
  (hY:∀pre x W1,J pre W1->pre.length<(fk was now).length->YieldAt F (n-1) prog l #[.int .i64 x] W1 λe W'=>e=.returned (.bool true)/\J (pre++[x]) W'/\∀v,W1.cell? ⟨Bn,0,none⟩=some v->W'.cell? ⟨Bn,0,none⟩=some v/\W'.frozen? ⟨Bn,0,none⟩=false)(h0:J [] W):
  CallsIn F n prog 262 #[.func (.yield l) #[] #[],Bm,Bn] W λe W'=>(∃v,e=.returned v)/\J (fk was now) W':=by
 have hcm:=hJm _ _ h0
 have HL:Hid (∀(wy:Int)(K:Nat)(pre:ac),fk was now=pre++i9 wy K->pre.length+2*K+1=(fk was now).length):=λwy K pre e=>by
  rw[e,aV,pf];omega
 refine rP func262 rfl h262 ?_ hro;simp only[ntmps262,gX,bD,bW,Nat.reduceAdd,Nat.reduceSub,jV,jW,jX,jZ,iY,eG];rcases bF now was with hlt|hge
 .have q0:decide ((now:Int)<was)=true:=az;have hst:fk was now=[]++i9 1 (was-now):=by rw[fk,aQ FP,iY,show((was:Int)-now).natAbs=was-now by omega]
  generalize fk (was:Int) now=xs at*
  gi_wp2
  gi_loopw[8] (λ_ wr=>∃(pre:ac)(K:Nat),K<=was-now/\xs=pre++i9 1 K/\wr.cell? ⟨Bn,0,none⟩=some (.int .i64 ((now:Int)+K))/\wr.frozen? ⟨Bn,0,none⟩=false/\J pre wr) (λ_ wr=>(qR Bn wr-now).natAbs)
  case atStart=>exact⟨[],was-now,aX _,hst,by rw[hc];exact congrArg (λz=>some (Value.int .i64 z)) FP,hf,h0⟩
  case round=>
   obtain⟨pre,K,hk,hx,hck,hfk,hJs⟩:=hrel;clear hc hf h0 hst hcm;have hcm:=hJm _ _ hJs;have hlft:=sb hck;have hlen:=HL.o _ _ _ hx;rcases K with _|j
   .exact M8
   .obtain⟨cu,hcu⟩:∃cu:Int,cu=(now:Int)+((j+1:Nat):Int):=⟨_,rfl⟩;rw[<-hcu]at hck hlft;have HCU:=aa hcu;have q1:(cu==(now:Int))=false:=lH.2 FP;have hcb:0-1<=cu/\cu<=256:=FP
    clear hcu;obtain⟨fn,tmps,assign,body,hy,hR⟩:=hY pre 1 wr hJs FP
    gi_wp2
    refine hR.mono ?_;rintro e W3⟨rfl,hJ3,hk3⟩;obtain⟨fn,tmps,assign,body,hy,hR⟩:=hY (pre++[1]) 1 W3 hJ3 MI
    gi_wp2
    refine hR.mono ?_;rintro e W4⟨rfl,hJ4,hk4⟩;obtain⟨hc4,hf4⟩:=hk4 _ (hk3 _ hck).1;have HC:Hid ((W4.setCell ⟨Bn,0,none⟩ (.int .i64 (cu+-1))).cell? ⟨Bn,0,none⟩=some (.int .i64 ((now:Int)+j))):=aa ((CZ _ _ _ (by rw[hc4];rfl)).trans (congrArg (λz=>some (Value.int .i64 z)) (by have:=HCU.o;omega)));have HF:Hid ((W4.setCell ⟨Bn,0,none⟩ (.int .i64 (cu+-1))).frozen? ⟨Bn,0,none⟩=false):=aa (by rw[Dh];exact hf4)
    gi_wp2
    go_roundw
    case rel=>exact⟨pre++[1]++[1],j,FP,by rw[hx,i9];simp,HC.o,HF.o,hJ _ _ _ hJ4⟩
    case measure=>rw[sb HC.o,hlft,HCU.o];omega
 .have q0:decide ((now:Int)<was)=false:=an;have q0b:decide (now<was)=false:=an;have hst:fk was now=[]++i9 0 (now-was):=by rw[fk,aP FP,iY,show((was:Int)-now).natAbs=now-was by omega]
  generalize fk (was:Int) now=xs at*
  gi_wp2
  gi_loopw[8] (λ_ wr=>∃(pre:ac)(K:Nat),K<=now-was/\xs=pre++i9 0 K/\wr.cell? ⟨Bn,0,none⟩=some (.int .i64 ((now:Int)-K))/\wr.frozen? ⟨Bn,0,none⟩=false/\J pre wr) (λ_ wr=>(qR Bn wr-now).natAbs)
  case atStart=>exact⟨[],now-was,aX _,hst,by rw[hc];exact congrArg (λz=>some (Value.int .i64 z)) FP,hf,h0⟩
  case round=>
   obtain⟨pre,K,hk,hx,hck,hfk,hJs⟩:=hrel;clear hc hf h0 hst hcm;have hcm:=hJm _ _ hJs;have hlft:=sb hck;have hlen:=HL.o _ _ _ hx;rcases K with _|j
   .exact M8
   .obtain⟨cu,hcu⟩:∃cu:Int,cu=(now:Int)-((j+1:Nat):Int):=⟨_,rfl⟩;rw[<-hcu]at hck hlft;have HCU:=aa hcu;have q1:(cu==(now:Int))=false:=lH.2 FP;have hcb:0-1<=cu/\cu<=256:=FP
    clear hcu;obtain⟨fn,tmps,assign,body,hy,hR⟩:=hY pre 1 wr hJs FP
    gi_wp2
    refine hR.mono ?_;rintro e W3⟨rfl,hJ3,hk3⟩;obtain⟨fn,tmps,assign,body,hy,hR⟩:=hY (pre++[1]) 0 W3 hJ3 MI
    gi_wp2
    refine hR.mono ?_;rintro e W4⟨rfl,hJ4,hk4⟩;obtain⟨hc4,hf4⟩:=hk4 _ (hk3 _ hck).1;have HC:Hid ((W4.setCell ⟨Bn,0,none⟩ (.int .i64 (cu+1))).cell? ⟨Bn,0,none⟩=some (.int .i64 ((now:Int)-j))):=aa ((CZ _ _ _ (by rw[hc4];rfl)).trans (congrArg (λz=>some (Value.int .i64 z)) (by have:=HCU.o;omega)));have HF:Hid ((W4.setCell ⟨Bn,0,none⟩ (.int .i64 (cu+1))).frozen? ⟨Bn,0,none⟩=false):=aa (by rw[Dh];exact hf4)
    gi_wp2
    go_roundw
    case rel=>exact⟨pre++[1]++[0],j,FP,by rw[hx,i9];simp,HC.o,HF.o,hJ _ _ _ hJ4⟩
    case measure=>rw[sb HC.o,hlft,HCU.o];omega
def Qr(F:Fence)(n:Nat)(h240:F.fn 240)(hro:F.round=none)(was now:Int)(w:FC):
  CallsIn F n prog 240 #[.int .i64 was,.int .i64 now] w λe w'=>e=.returned (.func (.func 262) #[] #[.pointer (some ⟨w.heap.size+1,0,none⟩),.pointer (some ⟨w.heap.size,0,none⟩)])/\w'=(w.alloc (.cells #[.int .i64 was] 3)).alloc (.cells #[.int .i64 now] 3):=by
 refine rP func240 rfl h240 ?_ hro;simp only[ntmps240,gX,bD,bW,Nat.reduceAdd,Nat.reduceSub,jV,jW,jX,jZ,iY,eG]
 gi_wp2
 go_ret;exact⟨G5,rfl⟩
section
variable{live peak:Int}{k:Ob}{l:ac}{ss:O1}{ga gd:Nat}{A:ae}{w w0:FC}
def rx(w:FC):(zeroValue 115).run prog w=.ok (.agg (J .i64 (tab 256 λ_=>0))) w:=FZ
def ya(f:Nat->Int):Aq prog 115 (J .i64 (tab 256 f)).size:=by rw[Df,Lm];exact ag FU
def a0u{f g:Nat->Int}:(J .i64 (tab 256 f)).size=(J .i64 (tab 256 g)).size:=by rw[Df,Df,Lm,Lm]
def Lies.zu{X:ae}{v:NY}(h:Lies 1 X v l.length (vs k l))(hm:Own w0 w (A++X) ss):In k w v l:=by
 have hf:=h.from (A:=A) (rs:=[]) (by rw[fF];exact hm);obtain⟨h1,⟨rfl,h2,h3⟩|⟨ad,c,rfl,hc⟩⟩:=hf
 .have hl0:l.length=0:=h2;exact⟨none,0,by rw[hl0],λi hi=>FP⟩
 .exact⟨some ad,c,rfl,λi hi=>⟨ad,rfl,hc i _ (Fg k l i hi)⟩⟩
def Mv(l:ac)(c:Nat):aT l c+eqn l c=aT l (c+1):=by rw[YO];omega
def Yb(a n:Nat)(hr:AA w0 ga (AR (.slice gd l.length l.length) live peak))(hd:AA w0 gd (B l))(hb:Bytes l)(h1:(a:Int)+n<=live)(h2:live<=l.length)(h3:l.length<=1048576)(h4:0<n):ak 66 #[ga,.agg (SP a n)] w0 (RB w0 (.agg (J .i64 (tab 256 (aT (seg l a (a+n))))))):=by
 have CL:Hid (∀W,Below w0.heap.size w0 W->ak 115 #[ga,.agg (SP a n)] W (OwnB W (seg l a (a+n)))):=λW h=>If n peak (hr.keep W h) (hd.keep W h) h1 h2 h3 h4;have hsl:(seg l a (a+n)).length=n:=by simp[seg];omega
 have hsb:Bytes (seg l a (a+n)):=λx hx=>hb x (jB (iw hx));clear hr hd hb;generalize seg l a (a+n)=c at*;have hn:c.length<=1048576:=FP
 clear h1 h2 h3 h4 hsl;obtain⟨i3,hE⟩:=nP;have HE:=aa hE;obtain⟨i4,hE1⟩:=Md;have HE1:=aa hE1;clear hE1;have HB:=aa hsb;clear hE hsb;go_enter func66,ntmps66;have hm:=Own.nil w0
 go_wp2_with(first
 |(go_at_call 115;have _t:=hm;refine(CL.o _ hm.below).mono ?_;clear _t;rintro e w1 h1;obtain⟨X,v,rfl,hX,hm2⟩:=hm.mL h1;clear hm h1;have hm:=hm2;clear hm2;obtain⟨ad,cp,rfl⟩:=hX.shape;have HX:=aa hX;clear hX)
 |with_reducible refine wb hm ?_;clear hm;intro w g6 hm
 |with_reducible refine na ?_;(with_reducible refine wa _ hm rx ?_;clear hm;first|(have _t:=g5;intro w g hm)|intro w g5 hm)
 |refine UV ?_;try(clear hm;intro w gp hm))
 have hm0:=hm.perm gK;simp only[s2]at hm0;clear hm;have hm:=hm0;clear hm0;have HI:Hid (∀W(r1 r2 r3:O9),Own w0 W (r1::r2::r3::X) []->In .u8 W (.slice ad c.length cp) c):=λW r1 r2 r3 h=>HX.o.zu (A:=[r1,r2,r3]) h;have h00:∀i,i<256->(λ_:Nat=>(0:Int)) i=eqn (c.take 0) i:=λi _=>by simp[eqn]
 rw[Gi h00]at hm;clear h00
 go_loopw[14] (λu wr=>∃k:Nat,k<=c.length/\u=.int .i64 k/\Own w0 wr ((g,J .i64 (tab 256 (eqn (c.take k))))::(g5,J .i64 (tab 256 (eqn (c.take 0))))::(g6,SP a n)::X) []) (λu _=>c.length-(intOf u).toNat)
 case atStart=>exact⟨0,FP,rfl,hm⟩
 case round=>
  clear hm;obtain⟨k,hk,rfl,hm⟩:=hrel;by_cases hlt:k<c.length
  .have hs:=HB.o (gi c k) (by rw[BZ c k hlt];exact dF _);have hin:=HI.o _ _ _ _ hm;obtain⟨ad2,cp2,he,hc⟩:=hin;cases he;obtain⟨A,rfl,hcell⟩:=hc k hlt;obtain⟨b,hb⟩:=dB hs.1;have hb1:b<256:=FP
   rw[hb]at hcell;have hbd:=Fz (c.take k) b;have hlt2:=lC k c;have w3:IntKind.i64.wrap (eqn (c.take k) b+1)=eqn (c.take k) b+1:=av;have HG:=aa (PU .i64 (eqn (c.take k)) hb1)
   have HP:=aa (kH .i64 (n:=256) (eqn (c.take k)) (eqn (c.take (k+1))) b (eqn (c.take k) b+1) (λj _=>by
    rw[Jm c k hlt,hb];by_cases e:j=b
    .subst e;simp
    .rw[aP e,aP FP,jf]))
   have HSZ:Hid (b<(J .i64 (tab 256 (eqn (c.take k)))).size):=aa (by rw[Df,Lm];exact hb1);clear hs hc hb hbd hlt2;generalize eqn (c.take k) b=y at*;generalize hT1:tab 256 (eqn (c.take k))=T1 at*;generalize hT2:tab 256 (eqn (c.take (k+1)))=T2 at*
   go_wp2_with(first
   |with_reducible refine cA (t:=22) ?_;(refine A8 rfl (Am rfl HE1.o rfl rfl rfl hlt) ?_)
   |with_reducible refine bh (t:=5) ?_;(refine A8 rfl (AU rfl rfl FV hcell) ?_)
   |(with_reducible first|refine wl 3 0 hm ?_ (hv:=al HG.o)|refine wc 3 0 hm ?_ (hf:=al HSZ.o) (hn:=al HP.o);clear hm;intro w hm)
   |refine UV ?_;try(clear hm;intro w gp hm))
   exact qf
  .obtain rfl:c.length=k:=FP
   rw[gY]at hm;go_wp2
   have hm0:Own w0 wr ((g,J .i64 (tab 256 (eqn c)))::(g5,J .i64 (tab 256 (λj=>if j<0 then aT c j else 0)))::(g6,SP a n)::X) []:=by
    rw[Gi (f:=λj=>if j<0 then aT c j else 0) (g:=eqn (c.take 0)) (λi _=>by simp[eqn])];exact hm
   clear hm;have hm:=hm0;clear hm0
   go_loopw[8,24] (λz u wr=>∃k:Nat,k<=256/\u=.int .i64 k/\z=.int .i64 (aT c k)/\Own w0 wr ((g,J .i64 (tab 256 (eqn c)))::(g5,J .i64 (tab 256 (λj=>if j<k then aT c j else 0)))::(g6,SP a n)::X) []) (λ_ u _=>256-(intOf u).toNat)
   case atStart=>exact⟨0,FP,rfl,by rw[uY HB.o],hm⟩
   case round=>
    clear hm;obtain⟨k,hk,rfl,rfl,hm⟩:=hrel;by_cases hlt:k<256
    .have hbd:=Ng c k;have b1:=Ll c k;have b2:=Fz c k;have w3:IntKind.i64.wrap (aT c k+eqn c k)=aT c k+eqn c k:=av;have HG:=aa (PU .i64 (eqn c) hlt);have HE2:=aa (Mv c k)
     have HP:=aa (kH .i64 (n:=256) (λj=>if j<k then aT c j else 0) (λj=>if j<k+1 then aT c j else 0) k (aT c k) (λj _=>by
      by_cases e:j=k
      .subst e;rw[aQ rfl,aQ FP]
      .rw[aP e];by_cases h:j<k
       .rw[aQ h,aQ FP]
       .rw[aP h,aP FP]))
     have HSZ:Hid (k<(J .i64 (tab 256 (λj=>if j<k then aT c j else 0))).size):=aa (by rw[Df,Lm];exact hlt);clear hbd b1 b2;generalize aT c k=x at*;generalize eqn c k=y at*;generalize hT1:tab 256 (λj=>if j<k then aT c j else 0)=T1 at*;generalize hT2:tab 256 (λj=>if j<k+1 then aT c j else 0)=T2 at*;generalize hT3:tab 256 (eqn c)=T3 at*
     go_wp2_with(first
     |(with_reducible first|refine wl 3 0 hm ?_ (hv:=al HG.o)|refine wc 3 1 hm ?_ (hf:=al HSZ.o) (hn:=al HP.o);clear hm;intro w hm)
     |refine UV ?_;try(clear hm;intro w gp hm))
     exact NL
    .obtain rfl:k=256:=FP
     rw[Gi (f:=λj=>if j<256 then aT c j else 0) (g:=aT c) (λi hi=>by rw[aQ hi])]at hm
     go_wp2_with(refine UV ?_;try(clear hm;intro w gp hm))
     refine aD (AQ rfl rfl (hm.row 1 rfl) (ya _)) rfl ⟨rfl,hm.below⟩
end
section
variable{l:ac}{ss:O1}{k:Nat}{rs:ae}{w w0:FC}
def Ua(h:∀i,i<l.length->gi l i≠1):l.any (λy=>decide (y=1))=false:=by
 rw[List.any_eq_false];intro y hy;obtain⟨i,hi,rfl⟩:=uh hy;have:=h i hi;rw[BZ l i hi]at this;simpa using this
def Wh(hk:k<l.length)(h:gi l k=1):l.any (λy=>decide (y=1))=true:=by
 rw[List.any_eq_true];exact⟨gi l k,by rw[BZ l k hk];exact dF _,by simpa using h⟩
def dU{v:NY}(hv:In .i64 w v l)(hn:l.length<=1000000):ak 145 #[v,.int .i64 1] w λx w'=>(∃r,x=.returned (.int .i64 r)/\decide (0<=r)=l.any (λy=>decide (y=1)))/\Below w.heap.size w w':=by
 obtain⟨ad,cp,rfl,hc⟩:=hv;obtain⟨i3,hE⟩:=nR;have HE:=aa hE;have HC:=aa hc;clear hE hc;go_enter func145,ntmps145;have hm:=Own.nil w;go_wp2
 go_loopw[8] (λu wr=>∃k:Nat,k<=l.length/\u=.int .i64 k/\(∀i,i<k->gi l i≠1)/\Own w wr [] []) (λu _=>l.length-(intOf u).toNat)
 case atStart=>exact⟨0,FP,rfl,λi hi=>FP,hm⟩
 case round=>
  clear hm;obtain⟨k,hk,rfl,hj,hm⟩:=hrel;by_cases hlt:k<l.length
  .obtain⟨A,rfl,hA0⟩:=HC.o k hlt;have HA:Hid (∀W,Below w.heap.size w W->W.cell? (A.add k)=some (.int .i64 (gi l k))):=λW h=>(h.cell (iK hA0)).trans hA0;have HJ:=aa hj;clear hA0 hj;by_cases h1:gi l k=1
   .have HR:=aa (Wh hlt h1);rw[h1]at HA
    go_wp2_with(first
     |with_reducible refine cA (t:=124) ?_;(refine A8 rfl (Am rfl HE.o rfl rfl rfl hlt) ?_)
     |with_reducible refine bh (t:=3) ?_;(refine A8 rfl (AU rfl rfl DR (HA.o _ hm.below)) ?_))
    go_ret;refine⟨⟨_,rfl,?_⟩,hm.below⟩;rw[HR.o];exact aW FP
   .have HN:=aa h1;have q1:((1:Int)==gi l k)=false:=by simpa using λe=>h1 e.symm
    generalize hx:gi l k=x at*;clear h1
    go_wp2_with(first
     |with_reducible refine cA (t:=124) ?_;(refine A8 rfl (Am rfl HE.o rfl rfl rfl hlt) ?_)
     |with_reducible refine bh (t:=3) ?_;(refine A8 rfl (AU rfl rfl DR (HA.o _ hm.below)) ?_))
    go_roundw
    case rel=>exact⟨k+1,FP,by go_num,λi hi=>by
     by_cases e:i=k
     .subst e;rw[hx];exact HN.o
     .exact HJ.o i FP,hm⟩
    case measure=>simp[intOf];omega
  .obtain rfl:l.length=k:=FP
   have HR:=aa (Ua hj);clear hj;go_wp2;go_ret;exact⟨⟨_,rfl,by rw[HR.o];rfl⟩,hm.below⟩
def UZ{v:NY}(hv:In .i64 w v l)(hn:l.length<=1000000):ak 105 #[v,.int .i64 1] w (RB w (.bool (l.any (λy=>decide (y=1))))):=by
 have CI:=aa (dU hv hn);go_enter func105,ntmps105;have hm:=Own.nil w
 go_wp2_with(first
 |(go_at_call 145;have _t:=hm;refine CI.o.mono ?_;rintro e w1⟨⟨r,rfl,hr⟩,hb⟩;replace hm:=hm.call hb;clear hb))
 go_ret;exact⟨by rw[<-hr];rfl,hm.below⟩
def a00{v:NY}(hm:Own w0 w rs ss)(hv:∀W,Own w0 W rs ss->Src W v (vs .u8 l))(hn:l.length<=100000)(h0:0<l.length):ak 106 #[v] w λx w'=>∃X v,x=.returned v/\Lies 1 X v l.length (vs .u8 l.reverse)/\Own w0 w' (X++rs) ss:=by
 have CC:Hid (∀W,Own w0 W rs ss->ak 99 #[v] W λx w'=>∃g p c cells,x=.returned (.slice (some ⟨g,p,none⟩) l.length c)/\Lies 1 [(g,cells)] (.slice (some ⟨g,p,none⟩) l.length c) l.length (vs .u8 l)/\Own w0 w' ((g,cells)::rs) ss):=λW h=>by
  refine(clone_any l (hv W h) FP).mono λx w' hx=>?_;obtain⟨X,v2,rfl,hX,hm⟩:=h.mL hx;have hX2:=hX;obtain⟨g,p,c,cells,rfl,rfl,_⟩:=hX.pos h0;exact⟨g,p,c,cells,rfl,hX2,hm⟩
 have CR:Hid (∀W g p c cells,Lies 1 [(g,cells)] (.slice (some ⟨g,p,none⟩) l.length c) l.length (vs .u8 l)->Own w0 W ((g,cells)::rs) ss->ak 146 #[.slice (some ⟨g,p,none⟩) l.length c] W (kG w0 (.slice (some ⟨g,p,none⟩) l.length c) l rs ss)):=λW g p c cells hX h=>WR h hX FP h0;clear hv;go_enter func106,ntmps106
 go_wp2_with(first
 |(go_at_call 99;have _t:=hm;refine(CC.o _ hm).mono ?_;clear _t hm;rintro e w1⟨g,p,c,cells,rfl,hX,hm⟩)
 |(go_at_call 146;have _t:=hm;refine(CR.o _ _ _ _ _ hX hm).mono ?_;clear _t hm;rintro e w1⟨⟨u,rfl⟩,X2,hX2,hm⟩))
 go_ret;exact⟨X2,_,rfl,hX2,hm⟩
end
def rc(w0:FC)(l:ac)(rs:ae)(ss:O1)(x:Ending)(w':FC):Prop:=∃X v,x=.returned v/\Lies 1 X v l.length (vs .i64 l)/\Own w0 w' (X++rs) ss
def Own.behind{w0 w:FC}{X rs:ae}{ss:O1}(h:Own w0 w (X++rs) ss):Own w0 w rs ss:=h.sub (bG X rs) (aY _)
end Go.Proofs.YtkpbhdhkdonghaaGreat
