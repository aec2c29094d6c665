/- Part 23 of the proof. -/
import Derived.Lib.Hide
import Derived.Test.YtkpbhdhkdonghaaGreatS15
set_option linter.all false
set_option maxHeartbeats 1000000
set_option maxRecDepth 100000
namespace Go.Proofs.YtkpbhdhkdonghaaGreat.Pol
open Go Tryz Go.RowKit
variable{a:OA}{m n s:Int}{l:ac}{base f r:Nat}{o:Oz}{x y:O7}{w:FC}
def dt(n s m:Int):Prop:=1<=n/\n<=65536/\(s=1\/s=2)/\(m=1\/m=2\/m=3)
instance(n s m:Int):Decidable (dt n s m):=by unfold dt;infer_instance
def rowsOf(n:Int):Int:=if 1024<n+1 then 1024 else n+1
def lk(n m:Int):ac:=if m=3 then[n,n,4*rowsOf n]else[n]
def lL(n m:Int):ac:=if m=1 then[n,1024*(n/8192)]else if m=2 then[n,1024*(n/1024)]else[n,4*(n+1)]
def lay(n s m:Int):ac:=if dt n s m then(if s=1 then lk n m else lL n m)else[]
def er(n s m:Int):Int:=if dt n s m then 0 else 2
def ib(w:FC)(l:ac)(x:Ending)(w':FC):Prop:=(∃v,x=.returned v/\w'.ownsRow w.heap.size 3 1 v l.length (vs .i64 l))/\Below w.heap.size w w'
def iX(w:FC)(l:ac)(e:Int)(x:Ending)(w':FC):Prop:=(∃v,x=.returned (.tuple #[v,.int .i64 e])/\w'.ownsRow w.heap.size 3 1 v l.length (vs .i64 l))/\Below w.heap.size w w'
def Ml{v:NY}(h:w.ownsRow base 3 1 v (vs .i64 l).length (vs .i64 l)):w.ownsRow base 3 1 v l.length (vs .i64 l):=by rw[Ai]at h;exact h
def n8{v:NY}(h:w.ownsRow base 3 1 v l.length (vs .i64 l)):w.ownsRow base 3 1 v (vs .i64 l).length (vs .i64 l):=by rw[Ai];exact h
def nQ(ho:o.op=.lookup 204 x y true)(hx:a.eval x=.map (some r))(hy:a.eval y=key s m)(h:Holds w r [])(hs:(Lit.int .u8 s).wf=true)(hm:(Lit.int .u8 m).wf=true)(hp:plan s m=some f):
  (execOp a.eval o).run prog w=.ok (.value (.tuple #[.func (.func f) #[] #[],.bool true])) w:=by
 have H:=Ps h hs hm;rw[hp]at H;unfold execOp;simp only[ho,hx,hy,aL,H,found,V,aS,bw]
def YH(ho:o.op=.lookup 204 x y true)(hx:a.eval x=.map (some r))(hy:a.eval y=key s m)(h:Holds w r [])(hs:(Lit.int .u8 s).wf=true)(hm:(Lit.int .u8 m).wf=true)(hp:plan s m=none):
  (execOp a.eval o).run prog w=.ok (.value (.tuple #[.nilFunc,.bool false])) w:=by
 have H:=Ps h hs hm;rw[hp]at H;unfold execOp;simp only[ho,hx,hy,aL,H,found,aS,bw]
def O3:ak 176 #[.int .i64 n] w (ib w [n]):=by
 go_enter func176,ntmps176;have hm:=Own.nil w
 go_wp2_with(first
 |refine R9 hm rfl rfl rfl ?_;intro w1 g1 hm1;clear hm)
 exact tz
def A79(h1:1<=n)(h2:n<=65536)(h3:¬1024<n+1):ak 177 #[.int .i64 n] w (ib w [n,n,4*(n+1)]):=BW
def Yx(h1:1<=n)(h2:n<=65536)(h3:1024<n+1):ak 177 #[.int .i64 n] w (ib w [n,n,4*1024]):=BW
def ZL(h1:1<=n)(h2:n<=65536):ak 177 #[.int .i64 n] w (ib w [n,n,4*rowsOf n]):=by
 unfold rowsOf;split
 .exact Yx h1 h2 Gq
 .exact A79 h1 h2 Gq
def A6V(h1:1<=n)(h2:n<=65536):ak 178 #[.int .i64 n] w (ib w [n,1024*(n/8192)]):=by
 go_enter func178,ntmps178;exact zR
def A6U(h1:1<=n)(h2:n<=65536):ak 179 #[.int .i64 n] w (ib w [n,1024*(n/1024)]):=by
 go_enter func179,ntmps179;exact zR
def Qy(h1:1<=n)(h2:n<=65536):ak 180 #[.int .i64 n] w (ib w [n,4*(n+1)]):=by
 go_enter func180,ntmps180;exact zR
def E2(s m:Int)(hs:(Lit.int .u8 s).wf=true)(hm:(Lit.int .u8 m).wf=true)(h1:1<=n)(h2:n<=65536)(hp:plan s m=some 176)(hc:∀w,ak 176 #[.int .i64 n] w (ib w l)):
  ak 94 #[.int .i64 n,.int .u8 s,.int .u8 m] w (iX w l 0):=by
 have HP:=aa hp;have HC:=aa hc;have HS:=aa hs;have HM:=aa hm;clear hp hc hs hm;have b1:¬n<1:=FP
 have b2:¬65536<n:=FP
 go_enter func94,ntmps94;have hm:=Own.nil w
 go_wp2_with(first
 |(go_at_call 135;refine(nk).mono ?_;rintro e w1⟨⟨r,rfl,hH⟩,hb1⟩;have hm1:=hm.call hb1;clear hm)
 |refine A8 rfl (nQ rfl rfl rfl hH HS.o HM.o HP.o) ?_
 |(go_at_call 176;refine(HC.o _).mono ?_;rintro e w2⟨⟨v,rfl,ho⟩,hb2⟩;have hm2:=hm1.fG hb2 (n8 ho);clear hm1))
 go_ret2
 exact p9
def Z7(s m:Int)(hs:(Lit.int .u8 s).wf=true)(hm:(Lit.int .u8 m).wf=true)(h1:1<=n)(h2:n<=65536)(hp:plan s m=some 177)(hc:∀w,ak 177 #[.int .i64 n] w (ib w l)):
  ak 94 #[.int .i64 n,.int .u8 s,.int .u8 m] w (iX w l 0):=by
 have HP:=aa hp;have HC:=aa hc;have HS:=aa hs;have HM:=aa hm;clear hp hc hs hm;have b1:¬n<1:=FP
 have b2:¬65536<n:=FP
 go_enter func94,ntmps94;have hm:=Own.nil w
 go_wp2_with(first
 |(go_at_call 135;refine(nk).mono ?_;rintro e w1⟨⟨r,rfl,hH⟩,hb1⟩;have hm1:=hm.call hb1;clear hm)
 |refine A8 rfl (nQ rfl rfl rfl hH HS.o HM.o HP.o) ?_
 |(go_at_call 177;refine(HC.o _).mono ?_;rintro e w2⟨⟨v,rfl,ho⟩,hb2⟩;have hm2:=hm1.fG hb2 (n8 ho);clear hm1))
 go_ret2
 exact p9
def A4I(s m:Int)(hs:(Lit.int .u8 s).wf=true)(hm:(Lit.int .u8 m).wf=true)(h1:1<=n)(h2:n<=65536)(hp:plan s m=some 178)(hc:∀w,ak 178 #[.int .i64 n] w (ib w l)):
  ak 94 #[.int .i64 n,.int .u8 s,.int .u8 m] w (iX w l 0):=by
 have HP:=aa hp;have HC:=aa hc;have HS:=aa hs;have HM:=aa hm;clear hp hc hs hm;have b1:¬n<1:=FP
 have b2:¬65536<n:=FP
 go_enter func94,ntmps94;have hm:=Own.nil w
 go_wp2_with(first
 |(go_at_call 135;refine(nk).mono ?_;rintro e w1⟨⟨r,rfl,hH⟩,hb1⟩;have hm1:=hm.call hb1;clear hm)
 |refine A8 rfl (nQ rfl rfl rfl hH HS.o HM.o HP.o) ?_
 |(go_at_call 178;refine(HC.o _).mono ?_;rintro e w2⟨⟨v,rfl,ho⟩,hb2⟩;have hm2:=hm1.fG hb2 (n8 ho);clear hm1))
 go_ret2
 exact p9
def A4H(s m:Int)(hs:(Lit.int .u8 s).wf=true)(hm:(Lit.int .u8 m).wf=true)(h1:1<=n)(h2:n<=65536)(hp:plan s m=some 179)(hc:∀w,ak 179 #[.int .i64 n] w (ib w l)):
  ak 94 #[.int .i64 n,.int .u8 s,.int .u8 m] w (iX w l 0):=by
 have HP:=aa hp;have HC:=aa hc;have HS:=aa hs;have HM:=aa hm;clear hp hc hs hm;have b1:¬n<1:=FP
 have b2:¬65536<n:=FP
 go_enter func94,ntmps94;have hm:=Own.nil w
 go_wp2_with(first
 |(go_at_call 135;refine(nk).mono ?_;rintro e w1⟨⟨r,rfl,hH⟩,hb1⟩;have hm1:=hm.call hb1;clear hm)
 |refine A8 rfl (nQ rfl rfl rfl hH HS.o HM.o HP.o) ?_
 |(go_at_call 179;refine(HC.o _).mono ?_;rintro e w2⟨⟨v,rfl,ho⟩,hb2⟩;have hm2:=hm1.fG hb2 (n8 ho);clear hm1))
 go_ret2
 exact p9
def A4G(s m:Int)(hs:(Lit.int .u8 s).wf=true)(hm:(Lit.int .u8 m).wf=true)(h1:1<=n)(h2:n<=65536)(hp:plan s m=some 180)(hc:∀w,ak 180 #[.int .i64 n] w (ib w l)):
  ak 94 #[.int .i64 n,.int .u8 s,.int .u8 m] w (iX w l 0):=by
 have HP:=aa hp;have HC:=aa hc;have HS:=aa hs;have HM:=aa hm;clear hp hc hs hm;have b1:¬n<1:=FP
 have b2:¬65536<n:=FP
 go_enter func94,ntmps94;have hm:=Own.nil w
 go_wp2_with(first
 |(go_at_call 135;refine(nk).mono ?_;rintro e w1⟨⟨r,rfl,hH⟩,hb1⟩;have hm1:=hm.call hb1;clear hm)
 |refine A8 rfl (nQ rfl rfl rfl hH HS.o HM.o HP.o) ?_
 |(go_at_call 180;refine(HC.o _).mono ?_;rintro e w2⟨⟨v,rfl,ho⟩,hb2⟩;have hm2:=hm1.fG hb2 (n8 ho);clear hm1))
 go_ret2
 exact p9
def Wa(hs:(Lit.int .u8 s).wf=true)(hm:(Lit.int .u8 m).wf=true)(hn:¬(1<=n/\n<=65536))(hp:plan s m=some f):
  ak 94 #[.int .i64 n,.int .u8 s,.int .u8 m] w (iX w [] 2):=by
 have HP:=aa hp;have HS:=aa hs;have HM:=aa hm;clear hp hs hm;by_cases b1:n<1
 .exact JS
 .have b2:65536<n:=FP
  exact JS
def A5P(hs:(Lit.int .u8 s).wf=true)(hm:(Lit.int .u8 m).wf=true)(hp:plan s m=none):
  ak 94 #[.int .i64 n,.int .u8 s,.int .u8 m] w (iX w [] 2):=by
 have HP:=aa hp;have HS:=aa hs;have HM:=aa hm;clear hp hs hm;go_enter func94,ntmps94;have hm:=Own.nil w
 go_wp2_with(first
 |(go_at_call 135;refine(nk).mono ?_;rintro e w1⟨⟨r,rfl,hH⟩,hb1⟩;have hm1:=hm.call hb1;clear hm)
 |refine A8 rfl (YH rfl rfl rfl hH HS.o HM.o HP.o) ?_)
 go_ret2
 exact⟨⟨_,rfl,oJ _ _ _ _⟩,hm1.below⟩
def Ki(s m:Int):(∃f,plan s m=some f)↔(s=1\/s=2)/\(m=1\/m=2\/m=3):=by
 unfold plan
 constructor
 .rintro⟨f,h⟩
  repeat' split at h
  all_goals first|(cases h;done)|omega
 .intro h
  repeat' split
  all_goals first|exact⟨_,rfl⟩|omega
def mT(n s m:Int)(w:FC)(hs:(Lit.int .u8 s).wf=true)(hm:(Lit.int .u8 m).wf=true):ak 94 #[.int .i64 n,.int .u8 s,.int .u8 m] w (iX w (lay n s m) (er n s m)):=by
 by_cases hk:(s=1\/s=2)/\(m=1\/m=2\/m=3)
 .by_cases hn:1<=n/\n<=65536
  .have ha:dt n s m:=⟨hn.1,hn.2,hk.1,hk.2⟩;rw[lay,er,aQ ha,aQ ha];rcases hk with⟨rfl|rfl,rfl|rfl|rfl⟩
   .exact E2 1 1 hs hm hn.1 hn.2 rfl (λw=>O3)
   .exact E2 1 2 hs hm hn.1 hn.2 rfl (λw=>O3)
   .exact Z7 1 3 hs hm hn.1 hn.2 rfl (λw=>ZL hn.1 hn.2)
   .exact A4I 2 1 hs hm hn.1 hn.2 rfl (λw=>A6V hn.1 hn.2)
   .exact A4H 2 2 hs hm hn.1 hn.2 rfl (λw=>A6U hn.1 hn.2)
   .exact A4G 2 3 hs hm hn.1 hn.2 rfl (λw=>Qy hn.1 hn.2)
  .have ha:¬dt n s m:=λh=>hn ⟨h.1,h.2.1⟩;rw[lay,er,aP ha,aP ha];obtain⟨f,hf⟩:=(Ki s m).2 hk;exact Wa hs hm hn hf
 .have ha:¬dt n s m:=λh=>hk h.2.2;rw[lay,er,aP ha,aP ha];refine A5P hs hm ?_;cases h:plan s m with
 |none=>rfl
 |some f=>exact absurd ((Ki s m).1 ⟨f,h⟩) hk
end Go.Proofs.YtkpbhdhkdonghaaGreat.Pol

namespace Go.Proofs.YtkpbhdhkdonghaaGreat.Pol
open Go Tryz Go.RowKit
variable{A:Addr}{l:ac}{xs:ar}{base c n:Nat}{e:O4}{u:NY}{w:FC}
def M5{v:NY}(h:w.ownsRow base e 1 v n xs):∃a c,v=.slice a n c:=Av
def _root_.Go.Proofs.YtkpbhdhkdonghaaGreat.Src.at{j:Nat}(h:Src w (.slice (some A) n c) xs)(hj:xs[j]?=some u):w.cell? (A.add j)=some u:=by
 rcases h with⟨h,_⟩|⟨A',c',h,hc⟩
 .cases h
 .cases h;exact hc j u hj
def _root_.Go.Proofs.YtkpbhdhkdonghaaGreat.Src.some{w:FC}{a:Ov}{n c:Nat}{l:ac}(h:Src w (.slice a n c) (vs .i64 l)){j:Nat}(hj:j<l.length):∃A,a=some A:=by
 rcases h with⟨_,h0⟩|⟨A,c,h,_⟩
 .have:=congrArg List.length h0;rw[Ai]at this;simp only[bW]at this;omega
 .injection h with h1;exact⟨A,h1⟩
def DR:ET prog 3:=⟨λw=>FZ,FZ⟩
def gP(l:ac)(k:Nat):Int:=(l.take k).sum
def Kg(l:ac)(k:Nat)(h:k<l.length):gP l (k+1)=gP l k+gi l k:=by
 rw[gP,kW h,qQ];simp[gP,gi,fU,fe h]
def A6n:gP l l.length=l.sum:=by rw[gP,gY]
def xS(l:ac):Prop:=l.length<=3/\∀x∈l,0<=x/\x<=16777216
def K4(h:xS l)(k:Nat)(hk:k<l.length):0<=gi l k/\gi l k<=16777216:=by
 have:gi l k=l[k]:=by simp[gi,fU,fe hk]
 rw[this];exact h.2 _ (dF hk)
def GF{l:ac}(h:xS l):∀k,k<=l.length->0<=gP l k/\gP l k<=16777216*k
|0,_=>by simp[gP]
|k+1,hk=>by
  have:=GF h k FP;have:=K4 h k FP;rw[Kg l k FP];omega
def Qd(n s m:Int):xS (lay n s m):=by
 unfold lay;split
 .rename_i h;have h1:=h.1;have h2:=h.2.1;unfold lk lL rowsOf
  repeat' split
  all_goals(refine⟨G5,λx hx=>?_⟩;simp only[dh,qL,qM]at hx)
  all_goals omega
 .exact⟨G5,λx hx=>absurd hx G5⟩
def need(n s m:Int):Int:=(lay n s m).sum
def iN(w:FC)(v e:Int)(x:Ending)(w':FC):Prop:=x=.returned (.tuple #[.int .i64 v,.int .i64 e])/\Below w.heap.size w w'
def rR{n:Int}(s m:Int)(hs:(Lit.int .u8 s).wf=true)(hm:(Lit.int .u8 m).wf=true):ak 40 #[.int .i64 n,.int .u8 s,.int .u8 m] w (iN w (need n s m) (er n s m)):=by
 have HS:=aa hs;have HM:=aa hm;have hsane:=Qd n s m;have HL:Hid (∀w,ak 94 #[.int .i64 n,.int .u8 s,.int .u8 m] w (iX w (lay n s m) (er n s m))):=λw=>mT n s m w hs hm;have HN:Hid (need n s m=gP (lay n s m) (lay n s m).length):=(A6n).symm;clear hs hm;generalize need n s m=N at*;generalize lay n s m=l at*;generalize er n s m=e at*;obtain⟨i3,hE⟩:=i8;have HE:=aa hE;have HSane:=aa hsane;have hl3:=hsane.1;clear hE hsane;go_enter func40,ntmps40;have hm:=Own.nil w
 go_wp2_with(first
 |(go_at_call 94;refine(HL.o _).mono ?_;rintro e w1⟨⟨r1,rfl,ho1⟩,hb1⟩;obtain⟨a1,c1,rfl⟩:=M5 ho1;have hm1:=hm.fG hb1 (n8 ho1);clear hm))
 go_loopw[6,20] (λv u wr=>∃k:Nat,k<=l.length/\v=.int .i64 (gP l k)/\u=.int .i64 k/\Own w wr [] [(.slice a1 l.length c1,3,vs .i64 l)]) (λ_ u _=>l.length-(intOf u).toNat)
 case atStart=>exact⟨0,FP,rfl,rfl,hm1⟩
 case round=>
  obtain⟨k,hk,rfl,rfl,hmr⟩:=hrel;clear hm1;by_cases hlt:k<l.length
  .obtain⟨A,rfl⟩:=Src.some (Src.Yo (hmr.get 0 rfl)) hlt;have hcell:=(Src.Yo (hmr.get 0 rfl)).at (Fg .i64 l k hlt);have hst:=Kg l k hlt;have hb1:=GF HSane.o k hk;have hb2:=K4 HSane.o k hlt;have hw:IntKind.i64.wrap (gP l k+gi l k)=gP l k+gi l k:=av;generalize gi l k=x at*;have HST:=aa hst;clear hst hb1 hb2
   go_wp2_with(first
   |refine A8 rfl (Am rfl HE.o rfl rfl rfl hlt) ?_
   |refine A8 rfl (AU rfl rfl DR hcell) ?_)
   go_roundw
   case rel=>exact⟨k+1,FP,by rw[HST.o],by go_num,hmr⟩
   case measure=>simp[intOf];omega
  .obtain rfl:k=l.length:=FP
   go_wp2_with fail
   go_ret2
   exact⟨by rw[HN.o];rfl,hmr.below⟩
end Go.Proofs.YtkpbhdhkdonghaaGreat.Pol
