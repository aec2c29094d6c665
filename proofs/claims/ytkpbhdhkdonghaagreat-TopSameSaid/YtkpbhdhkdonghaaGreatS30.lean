/- Part 30 of the proof. -/
import Derived.Test.YtkpbhdhkdonghaaGreatS21
import Derived.Test.YtkpbhdhkdonghaaGreatS29
set_option linter.all false
set_option maxHeartbeats 2000000
set_option maxRecDepth 100000
namespace Go.Proofs.YtkpbhdhkdonghaaGreat
open Go Tryz Go.RowKit
open Go.Sort
def ko:ac->Int
|[]=>0
|a::l=>if a=0 then ko l else a
def AfC(l:ac)(k:Nat)(h:k<l.length):ko (l.drop k)=if gi l k=0 then ko (l.drop (k+1))else gi l k:=by
 rw[jg h,ko,BZ l k h]
def AhP{v:NY}{l:ac}{w:FC}(hv:In .i64 w v l)(hn:l.length<=1000000):ak 206 #[v] w (RW w (.int .i64 (ko l))):=by
 obtain⟨ad,cp,rfl,hc⟩:=hv;obtain⟨i3,hE⟩:=nR;have HE:=aa hE;have HC:=aa hc;obtain⟨o,ho⟩:∃o,o=ko l:=⟨_,rfl⟩;rw[<-ho];have HO:Hid (o=ko (l.drop 0)):=aa ho;clear hE hc ho;go_enter func206,ntmps206;go_wp2
 go_loopw[8] (λu wr=>∃k:Nat,k<=l.length/\u=.int .i64 k/\o=ko (l.drop k)/\wr=w) (λu _=>l.length-(intOf u).toNat)
 case atStart=>exact⟨0,FP,rfl,HO.o,rfl⟩
 case round=>
  obtain⟨k,hk,rfl,ho,rfl⟩:=hrel;by_cases hlt:k<l.length
  .obtain⟨A,rfl,hA⟩:=HC.o k hlt;rw[AfC l k hlt]at ho;have w3:IntKind.i64.wrap ((k:Int)+1)=((k+1:Nat):Int):=by rw[aZ _ FP];push_cast;rfl
   by_cases h0:gi l k=0
   .rw[aQ h0]at ho;have HN:=aa ho;rw[h0]at hA;clear ho h0
    go_wp2_with(first
    |refine A8 rfl (Am rfl HE.o rfl rfl rfl hlt) ?_
    |refine A8 rfl (AU rfl rfl DR hA) ?_)
    go_roundw
    case rel=>exact⟨k+1,FP,by go_num,HN.o,trivial⟩
    case measure=>simp[intOf];omega
   .rw[aP h0]at ho;have q1:(gi l k==0)=false:=by simpa using h0
    have q2:(gi l k !=0)=true:=by simpa using h0
    have HN:=aa ho;clear ho h0;generalize gi l k=x at*
    go_wp2_with(first
    |refine A8 rfl (Am rfl HE.o rfl rfl rfl hlt) ?_
    |refine A8 rfl (AU rfl rfl DR hA) ?_)
    go_ret;exact⟨by rw[HN.o];rfl,rfl⟩
  .obtain rfl:l.length=k:=FP
   have HN:Hid (o=0):=aa (by rw[ho,qC];rfl);clear ho;go_wp2;go_ret;exact⟨by rw[HN.o];rfl,rfl⟩
def cf(x y:Pr):Int:=ko [eu x.1 y.1,eu x.2 y.2]
def rN(x y:Pr):ltOf cf x y=eh x y:=by
 rw[EF,o4];simp only[ltOf,iR,cf,ko,eu];by_cases h1:x.1<y.1
 .simp[h1]
 .by_cases h2:y.1<x.1
  .simp[h1,h2];omega
  .by_cases h3:x.2<y.2
   .simp[h1,h2,h3];omega
   .by_cases h4:y.2<x.2<;>simp[h1,h2,h3,h4]
def XP:Sort.SWO (ltOf cf)where
 irrefl x:=by rw[rN];exact nz x
 trans x y z h1 h2:=by rw[rN]at*;exact tU h1 h2
 ntrans x y z h1 h2:=by
  rw[rN]at*;cases h3:eh x z with
 |false=>rfl
 |true=>
   rcases qe x y with h|h|h
   .rw[h]at h1;cases h1
   .subst h;rw[h3]at h2;cases h2
   .rw[tU h h3]at h2;cases h2
def Rg{P:O8}{w:FC}{o:Oz}{a:OA}{t e:O4}{i:Oy}{z:NY}{bytes:Nat}{x y:O7}(ho:o.op=.buildSlice t 2 #[(0,x),(1,y)])(he:Gv P t e i z bytes){u v:NY}(hx:a.eval x=u)(hu:u.cells=#[u])(hy:a.eval y=v)(hv:v.cells=#[v]):
  (execOp a.eval o).run P w=.ok (.value (.slice (some ⟨w.heap.size,0,none⟩) 2 2)) (w.alloc (.cells #[u,v] e)):=by
 have hz:(zeroValue e).run P w=.ok z w:=by simp[zeroValue,typeInfo,he.info,he.zero]
 unfold execOp;simp only[ho,Instr.buildSlice,aL,bL he.under,aS,sizeOf,typeInfo,jL,he.info,cM,bT,bZ,hx,hy];have hr:Array.range 2=#[0,1]:=FU
 simp[Instr.fill,hu,hv,he.size,newRow,hz,Result.andThen,hr]
def eJ(x:Pr):ar:=[.int .i64 x.1,.int .i64 x.2]
def iu(W0:FC)(g1 g2:Nat)(x y:Pr)(W:FC):Prop:=AA W g1 (eJ x).toArray/\AA W g2 (eJ y).toArray/\∃q os,W=grow (W0.drewN q) os
def iu.alloc{W0 W:FC}{g1 g2:Nat}{x y:Pr}(h:iu W0 g1 g2 x y W)(o:Obj):iu W0 g1 g2 x y (W.alloc o):=by
 obtain⟨h1,h2,q,os,rfl⟩:=h;have hb:=(Below.refl (grow (W0.drewN q) os).heap.size (grow (W0.drewN q) os)).alloc (aX _) o;exact⟨h1.below hb,h2.below hb,q,_,by rw[alloc_eq_grow,grow_grow]⟩
def iu.Bp{W0 W:FC}{g1 g2:Nat}{x y:Pr}(h:iu W0 g1 g2 x y W):iu W0 g1 g2 x y {W with drawn:=W.drawn+1}:=by
 obtain⟨h1,h2,q,os,rfl⟩:=h;exact⟨h1,h2,q+1,os,by simp[grow,World.drewN,gG]⟩
def S5(x y:Pr){W:FC}:ak 205 #[.agg (eJ x).toArray,.agg (eJ y).toArray] W λe w'=>e=.returned (.int .i64 (cf x y))/\∃q os',w'=grow (W.drewN q) os':=by
 obtain⟨x1,x2⟩:=x;obtain⟨y1,y2⟩:=y;obtain⟨o,ho⟩:∃o,o=cf (x1,x2) (y1,y2):=⟨_,rfl⟩;rw[<-ho]
 have CO:Hid (∀(W:FC)(v:NY),In .i64 W v [eu x1 y1,eu x2 y2]->ak 206 #[v] W (RW W (.int .i64 o))):=λW v h=>by
  rw[ho];exact AhP h G5
 have CC:Hid (∀a b W,ak 207 #[.int .i64 a,.int .i64 b] W (RW W (.int .i64 (eu a b)))):=aa LT;clear ho;simp only[eJ];go_enter func205,ntmps205
 go_upto_region 1 with fail
 obtain⟨i3,hE⟩:=nR;have HL:=aa hE;clear hE
 have hS:iu W W.heap.size (W.heap.size+1) (x1,x2) (y1,y2) ((W.alloc (Obj.cells #[Value.int IntKind.i64 x1,.int IntKind.i64 x2] 241)).alloc (Obj.cells #[Value.int IntKind.i64 y1,.int IntKind.i64 y2] 241)):=by
  have h1:=AA.new W #[Value.int IntKind.i64 x1,.int IntKind.i64 x2] 241;have h2:=AA.new (W.alloc (Obj.cells #[Value.int IntKind.i64 x1,.int IntKind.i64 x2] 241)) #[Value.int IntKind.i64 y1,.int IntKind.i64 y2] 241;rw[show(W.alloc (Obj.cells #[Value.int IntKind.i64 x1,.int IntKind.i64 x2] 241)).heap.size=W.heap.size+1 by rw[alloc_eq_grow,size_grow];rfl]at h2;exact⟨h1.below ((Below.refl _ _).alloc (aX _) _),h2,0,_,by rw[alloc_eq_grow,alloc_eq_grow,grow_grow];rfl⟩
 generalize W.heap.size=g1 at*;generalize g1+1=g2 at*;generalize (W.alloc (Obj.cells #[Value.int IntKind.i64 x1,.int IntKind.i64 x2] 241)).alloc (Obj.cells #[Value.int IntKind.i64 y1,.int IntKind.i64 y2] 241)=w at*;refine Kv 13 (.am [(0,false),(1,true),(2,false),(3,true),(5,false),(6,true),(7,false),(8,true)] (.one 4 (.one 9 (.one 10 (.one 11 (.rp 12 .done)))))) (iu W g1 g2 (x1,x2) (y1,y2)) rfl FZ rfl FZ (λ_ _ d _ _ h=>by cases d<;>exact h) hS.Bp ?_;replace hS:=hS.Bp;generalize ({w with drawn:=w.drawn+1}:FC)=w5 at*;clear w;rename World=>w;simp only[KT.am];refine bj rfl rfl (λW=>by go_simp;rfl) ?_
 try simp only[Act.put,s3]
 refine eO rfl rfl (λW hW=>AU rfl rfl DR ((hW.1.cell 0).trans rfl)) ?_
 try simp only[Act.put,s3]
 refine bj rfl rfl (λW=>by go_simp;rfl) ?_
 try simp only[Act.put,s3]
 refine eO rfl rfl (λW hW=>AU rfl rfl DR ((hW.2.1.cell 0).trans rfl)) ?_
 try simp only[Act.put,s3]
 refine bj rfl rfl (λW=>by go_simp;rfl) ?_
 try simp only[Act.put,s3]
 refine eO rfl rfl (λW hW=>AU rfl rfl DR ((hW.1.cell 1).trans rfl)) ?_
 try simp only[Act.put,s3]
 refine bj rfl rfl (λW=>by go_simp;rfl) ?_
 try simp only[Act.put,s3]
 refine eO rfl rfl (λW hW=>AU rfl rfl DR ((hW.2.1.cell 1).trans rfl)) ?_
 try simp only[Act.put,s3]
 refine DJ rfl rfl (λK hK=>?_);go_simp;refine MW (CC.o _ _ _) ?_;refine hK _ _ ⟨iu W g1 g2 (x1,x2) (y1,y2),λ_ h=>h,hS,?_⟩;clear hK K
 try simp only[Act.put,s3]
 refine DJ rfl rfl (λK hK=>?_);go_simp;refine MW (CC.o _ _ _) ?_;refine hK _ _ ⟨iu W g1 g2 (x1,x2) (y1,y2),λ_ h=>h,hS,?_⟩;clear hK K
 try simp only[Act.put,s3]
 refine Bo rfl rfl (Eff.val (Rg rfl HL.o rfl rfl rfl rfl) ?_);have hS2:=hS.alloc (.cells #[Value.int .i64 (eu x1 y1),Value.int .i64 (eu x2 y2)] 3);have hR:=AA.new w #[Value.int .i64 (eu x1 y1),Value.int .i64 (eu x2 y2)] 3;refine⟨iu W g1 g2 (x1,x2) (y1,y2),λ_ h=>h,hS2,?_⟩
 try simp only[Act.put,s3]
 have CI:In .i64 (w.alloc (.cells #[Value.int .i64 (eu x1 y1),Value.int .i64 (eu x2 y2)] 3)) (.slice (some ⟨w.heap.size,0,none⟩) 2 2) [eu x1 y1,eu x2 y2]:=⟨some ⟨w.heap.size,0,none⟩,2,rfl,λi hi=>⟨_,rfl,by
  rw[fQ,hR.cell,dA];rcases i with _|_|i
  .rfl
  .rfl
  .simp at hi;omega⟩⟩
 have CO2:=CO.o (w.alloc (.cells #[Value.int .i64 (eu x1 y1),Value.int .i64 (eu x2 y2)] 3)) _ CI;clear CI CO;refine DJ rfl rfl (λK hK=>?_);go_simp;refine CO2.mono ?_;rintro e w3⟨rfl,rfl⟩;refine hK _ _ ⟨iu W g1 g2 (x1,x2) (y1,y2),λ_ h=>h,hS2,?_⟩;clear hK K
 try simp only[Act.put,s3]
 refine bj rfl rfl (λW=>by go_simp;rfl) ?_
 try simp only[Act.put,s3]
 refine Ba ?_;go_wp2;go_ret;obtain⟨_,_,hq⟩:=hS2;exact⟨rfl,hq⟩
end Go.Proofs.YtkpbhdhkdonghaaGreat
