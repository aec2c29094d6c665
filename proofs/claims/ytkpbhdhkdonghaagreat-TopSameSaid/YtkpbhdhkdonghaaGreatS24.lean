/- Part 24 of the proof. -/
import Derived.Test.YtkpbhdhkdonghaaGreatS12
import Derived.Test.YtkpbhdhkdonghaaGreatS23
set_option linter.all false
set_option maxHeartbeats 1000000
set_option maxRecDepth 100000
namespace Go.Proofs.YtkpbhdhkdonghaaGreat.Pol
open Go Tryz Go.RowKit
variable{m n s:Int}{w:FC}
def dist(m:Int):Int:=if m=1 then 8192 else if m=2 then 1024 else 0
def z'(m:Int):Bool:=decide (m=1\/m=2)
def dd(m:Int):Int:=if m=1 then 8192 else if m=2 then 1024 else 1
def fL(n m:Int):Int:=if dd m<n then dd m else n
def bnd(n m:Int):Int:=if dt n 2 m then 8300+15*(n+1)+(2*n+1)*fL n m else 0
def F'(hs:(Lit.int .u8 s).wf=true):ak 11 #[.int .i64 n,.int .u8 s] w (iN w (need n s 1) (er n s 1)):=by
 have HS:=aa hs;clear hs;go_enter func11,ntmps11;have hm:=Own.nil w
 go_wp2_with(first
 |(go_at_call 40;refine(rR s 1 HS.o rfl).mono ?_;rintro e w1⟨rfl,hb1⟩;have hm1:=hm.call hb1;clear hm))
 go_ret2
 exact ow
def I1:ak 96 #[.int .u8 1] w (RB w (.tuple #[.int .i64 8192,.bool true])):=tP
def At:ak 96 #[.int .u8 2] w (RB w (.tuple #[.int .i64 1024,.bool true])):=tP
def FJ(m:Int)(h1:¬m=1)(h2:¬m=2):ak 96 #[.int .u8 m] w (RB w (.tuple #[.int .i64 0,.bool false])):=by
 have b1:decide (m=1)=false:=aU h1;have b2:decide (m=2)=false:=aU h2;have b3:(m==1)=false:=by simpa using h1
 have b4:(m==2)=false:=by simpa using h2
 exact tP
def M4(m:Int)(w:FC):ak 96 #[.int .u8 m] w (RB w (.tuple #[.int .i64 (dist m),.bool (z' m)])):=by
 by_cases h1:m=1
 .subst h1;exact I1
 by_cases h2:m=2
 .subst h2;exact At
 have e1:dist m=0:=by rw[dist,aP h1,aP h2]
 have e2:z' m=false:=an;rw[e1,e2];exact FJ m h1 h2
def tG{d:Int}(h1:1<=n)(h2:n<=d)(hd:d<=8192):0<=(2*n+1)*n/\(2*n+1)*n<=16385*8192:=by
 have a:(2*n+1)*n<=16385*n:=zl FP FP;have b:0<=(2*n+1)*n:=tN FP FP;omega
def Rl(hm:(Lit.int .u8 m).wf=true)(he:er n 2 m=2):ak 42 #[.int .i64 n,.int .u8 m] w (iN w 0 2):=by
 have HM:=aa hm;have HE:=aa he;clear hm he;go_enter func42,ntmps42;have hm:=Own.nil w
 go_wp2_with(first
 |(go_at_call 94;refine(mT n 2 m _ rfl HM.o).mono ?_;rintro e w1⟨⟨r1,rfl,ho1⟩,hb1⟩;rw[HE.o];have hm1:=hm.call hb1;clear hm))
 go_ret2
 exact ow
def U9(h1:1<=n)(h2:n<=65536)(h3:¬8192<n):ak 42 #[.int .i64 n,.int .u8 1] w (iN w (8300+15*(n+1)+(2*n+1)*n) 0):=by
 have HE:Hid (er n 2 1=0):=by show er n 2 1=0;rw[er,aQ ⟨h1,h2,FP,FP⟩]
 have hq:=tG h1 (show n<=8192 by omega) FP;have hw1:IntKind.i64.wrap ((2*n+1)*n)=(2*n+1)*n:=av;have hw2:IntKind.i64.wrap (8300+15*(n+1)+(2*n+1)*n)=8300+15*(n+1)+(2*n+1)*n:=av;clear hq;exact Fm
def A86(h1:1<=n)(h2:n<=65536)(h3:8192<n):ak 42 #[.int .i64 n,.int .u8 1] w (iN w (8300+15*(n+1)+(2*n+1)*8192) 0):=by
 have HE:Hid (er n 2 1=0):=by show er n 2 1=0;rw[er,aQ ⟨h1,h2,FP,FP⟩]
 exact Fm
def A83(h1:1<=n)(h2:n<=65536)(h3:¬1024<n):ak 42 #[.int .i64 n,.int .u8 2] w (iN w (8300+15*(n+1)+(2*n+1)*n) 0):=by
 have HE:Hid (er n 2 2=0):=by show er n 2 2=0;rw[er,aQ ⟨h1,h2,FP,FP⟩]
 have hq:=tG h1 (show n<=1024 by omega) FP;have hw1:IntKind.i64.wrap ((2*n+1)*n)=(2*n+1)*n:=av;have hw2:IntKind.i64.wrap (8300+15*(n+1)+(2*n+1)*n)=8300+15*(n+1)+(2*n+1)*n:=av;clear hq;exact J1
def Yw(h1:1<=n)(h2:n<=65536)(h3:1024<n):ak 42 #[.int .i64 n,.int .u8 2] w (iN w (8300+15*(n+1)+(2*n+1)*1024) 0):=by
 have HE:Hid (er n 2 2=0):=by show er n 2 2=0;rw[er,aQ ⟨h1,h2,FP,FP⟩]
 exact J1
def Ry(h1:1<=n)(h2:n<=65536)(h3:¬1<n):ak 42 #[.int .i64 n,.int .u8 3] w (iN w (8300+15*(n+1)+(2*n+1)*n) 0):=by
 have HE:Hid (er n 2 3=0):=by show er n 2 3=0;rw[er,aQ ⟨h1,h2,FP,FP⟩]
 have hq:=tG h1 (show n<=1 by omega) FP;have hw1:IntKind.i64.wrap ((2*n+1)*n)=(2*n+1)*n:=av;have hw2:IntKind.i64.wrap (8300+15*(n+1)+(2*n+1)*n)=8300+15*(n+1)+(2*n+1)*n:=av;clear hq;exact Ab
def Yq(h1:1<=n)(h2:n<=65536)(h3:1<n):ak 42 #[.int .i64 n,.int .u8 3] w (iN w (8300+15*(n+1)+(2*n+1)) 0):=by
 have HE:Hid (er n 2 3=0):=by show er n 2 3=0;rw[er,aQ ⟨h1,h2,FP,FP⟩]
 exact Ab
def So(n:Int)(hm:(Lit.int .u8 m).wf=true):ak 42 #[.int .i64 n,.int .u8 m] w (iN w (bnd n m) (er n 2 m)):=by
 by_cases ha:dt n 2 m
 .have he:er n 2 m=0:=by rw[er,aQ ha]
  rw[he,bnd,aQ ha,fL];obtain⟨h1,h2,_,rfl|rfl|rfl⟩:=ha
  .split
   .exact A86 h1 h2 Gq
   .exact U9 h1 h2 Gq
  .split
   .exact Yw h1 h2 Gq
   .exact A83 h1 h2 Gq
  .split
   .show Calls _ _ _ _ (iN w (8300+15*(n+1)+(2*n+1)*1) 0);rw[Int.mul_one];exact Yq h1 h2 Gq
   .exact Ry h1 h2 Gq
 .have he:er n 2 m=2:=by rw[er,aP ha]
  rw[he,bnd,aP ha];exact Rl hm he
end Go.Proofs.YtkpbhdhkdonghaaGreat.Pol

namespace Go.Proofs.YtkpbhdhkdonghaaGreat.Pol
open Go Tryz Go.RowKit
variable{b m n s:Int}{w:FC}
def cm(b n s:Int):Nat->Int×Int
|0=>(0,230)
|k+1=>if need n s ((k+1:Nat):Int)<=b then(((k+1:Nat):Int),0)else cm b n s k
def mr(b:Int):Prop:=1<=b/\b<=1048576
instance(b:Int):Decidable (mr b):=by unfold mr;infer_instance
def pk(b n s:Int):Int×Int:=if dt n s 1/\mr b then cm b n s 3 else(0,2)
def lP(w:FC)(p:Int×Int)(x:Ending)(w':FC):Prop:=x=.returned (.tuple #[.int .u8 p.1,.int .i64 p.2])/\Below w.heap.size w w'
def Sf(k:Nat)(h:k<=3):(Lit.int .u8 (k:Int)).wf=true:=GB
def Ue(hs:(Lit.int .u8 s).wf=true)(he:er n s 1=2):ak 110 #[.int .i64 b,.int .i64 n,.int .u8 s] w (lP w (0,2)):=MY
def QT(hs:(Lit.int .u8 s).wf=true)(he:er n s 1=0)(hb:b<1):ak 110 #[.int .i64 b,.int .i64 n,.int .u8 s] w (lP w (0,2)):=MY
def St(hs:(Lit.int .u8 s).wf=true)(he:er n s 1=0)(hb:1048576<b):ak 110 #[.int .i64 b,.int .i64 n,.int .u8 s] w (lP w (0,2)):=by
 have HS:=aa hs;clear hs;have HE:=aa he;clear he;have hb2:¬b<1:=FP
 exact BE
def A6L(hs:(Lit.int .u8 s).wf=true)(he:er n s 1=0)(h1:1<=b)(h2:b<=1048576):ak 110 #[.int .i64 b,.int .i64 n,.int .u8 s] w (lP w (cm b n s 3)):=by
 have HS:=aa hs;have HE:=aa he;clear hs he;have hb1:¬b<1:=FP
 have hb2:¬1048576<b:=FP
 go_enter func110,ntmps110;have hm:=Own.nil w
 go_wp2_with(first
 |(go_at_call 11;refine(F' HS.o).mono ?_;rintro e w1⟨rfl,hb1⟩;rw[HE.o];have hm1:=hm.call hb1;clear hm))
 go_loopw[6] (λv wr=>∃k:Nat,k<=3/\v=.int .u8 k/\cm b n s 3=cm b n s k/\Own w wr [] []) (λv _=>(intOf v).toNat)
 case atStart=>exact⟨3,FP,rfl,rfl,hm1⟩
 case round=>
  obtain⟨k,hk,rfl,hp,hmr⟩:=hrel;clear hm1;have HP:=aa hp;clear hp;cases k with
 |zero=>
   go_wp2_with fail
   go_ret2
   exact⟨by rw[HP.o];rfl,hmr.below⟩
 |succ k=>
   have HK:=aa (Sf (k+1) hk);have c1:(0:Int)<((k+1:Nat):Int):=FP
   have c2:IntKind.u8.wrap (((k+1:Nat):Int)-1)=(k:Int):=by
    have:k=0\/k=1\/k=2:=FP
    rcases this with rfl|rfl|rfl<;>rfl
   have HD:Hid (cm b n s (k+1)=if need n s ((k+1:Nat):Int)<=b then(((k+1:Nat):Int),0)else cm b n s k):=rfl;generalize hq:((k+1:Nat):Int)=q at*;generalize hN:need n s q=N at*;have HN:=aa hN;clear hN;by_cases hfit:N<=b
   .rw[aQ hfit]at HD
    go_wp2_with(first
    |(go_at_call 40;refine(rR s q HS.o HK.o).mono ?_;rintro e w2⟨rfl,hb2⟩;rw[HN.o];have hm2:=hmr.call hb2;clear hmr))
    go_ret2
    exact⟨by rw[HP.o,HD.o];rfl,hm2.below⟩
   .rw[aP hfit]at HD;have c3:decide (N<=b)=false:=aU hfit
    go_wp2_with(first
    |(go_at_call 40;refine(rR s q HS.o HK.o).mono ?_;rintro e w2⟨rfl,hb2⟩;rw[HN.o];have hm2:=hmr.call hb2;clear hmr))
    go_roundw
    case rel=>exact⟨k,FP,by go_num,by rw[HP.o,HD.o],hm2⟩
    case measure=>simp[intOf];omega
def bu(b n s:Int):Nat->Int
|0=>1
|k+1=>if need n s ((k+1:Nat):Int)<=b then((k+1:Nat):Int)else bu b n s k
def nA(h:dt n s m):need n s m=if s=1 then(if m=3 then 2*n+4*rowsOf n else n)else if m=1 then n+1024*(n/8192)else if m=2 then n+1024*(n/1024)else n+4*(n+1):=by
 unfold need lay;rw[aQ h];unfold lk lL
 repeat' split
 all_goals simp only[mX,ng]
 all_goals omega
def kj(h:dt n s m):er n s m=0:=aQ h
def tg(h:¬dt n s m):er n s m=2:=aP h
def pick_any(b n s:Int)(w:FC)(hs:(Lit.int .u8 s).wf=true):ak 110 #[.int .i64 b,.int .i64 n,.int .u8 s] w (lP w (pk b n s)):=by
 by_cases ha:dt n s 1
 .by_cases hb:mr b
  .rw[pk,aQ ⟨ha,hb⟩];exact A6L hs (kj ha) hb.1 hb.2
  .rw[pk,aP (λh=>hb h.2)];by_cases h1:b<1
   .exact QT hs (kj ha) h1
   .exact St hs (kj ha) (by unfold mr at hb;omega)
 .rw[pk,aP (λh=>ha h.1)];exact Ue hs (tg ha)
end Go.Proofs.YtkpbhdhkdonghaaGreat.Pol
