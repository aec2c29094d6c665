/- Part 11 of the proof. -/
import Derived.Shelf.Abstract
import Derived.OwnWalkIn
import Derived.TacticsInMore
import Derived.LoopNIn
import Derived.LoopIn
import Derived.Test.YtkpbhdhkdonghaaGreatS09
import Derived.Test.YtkpbhdhkdonghaaGreatS10
set_option linter.all false
set_option maxHeartbeats 2000000
set_option maxRecDepth 100000
namespace Go.Proofs.YtkpbhdhkdonghaaGreat
open Go Tryz Go.RowKit Go.Shelf
section
variable{Bn k l m:Nat}{w:FC}
attribute [local go_sem] oD
def j6:Nat->Nat->ac
|0,_=>[]
|k+1,n=>if n=0 then[]else((n-1:Nat):Int)%2::j6 k ((n-1)/2)
def dg(n:Nat):ac:=j6 n n
def Oh:j6 k 0=[]:=by cases k<;>simp[j6]
def Zy:∀(k n:Nat),n<=k->∀j,n<=j->j6 k n=j6 j n
|0,n,hk,j,_=>by
  obtain rfl:n=0:=FP
  rw[Oh,Oh]
|k+1,n,hk,j,hj=>by
  by_cases h0:n=0
  .subst h0;rw[Oh,Oh]
  .obtain⟨j,rfl⟩:∃i,j=i+1:=⟨j-1,FP⟩;rw[j6,j6,aP h0,aP h0,Zy k ((n-1)/2) FP j FP]
def Og:dg 0=[]:=rfl
def Xt(n:Nat)(h:0<n):dg n=((n-1:Nat):Int)%2::dg ((n-1)/2):=by
 obtain⟨k,rfl⟩:∃k,n=k+1:=⟨n-1,FP⟩;rw[dg,j6,aP FP,dg,Zy k ((k+1-1)/2) FP _ (aX _)]
def nc:∀(k n:Nat),n<2^k->(dg n).length<=k
|0,n,h=>by
  obtain rfl:n=0:=by simpa using h
  simp[Og]
|k+1,n,h=>by
  by_cases h0:n=0
  .subst h0;simp[Og]
  .rw[Xt n FP,bD];have:=nc k ((n-1)/2) (by rw[ou]at h;omega);omega
def xP(q:Nat)(hq:q<2^32):bits .and .i64 (q:Int) 1=((q%2:Nat):Int):=by
 have h1:(BitVec.ofInt 64 (q:Int)).toNat=q:=by
  rw[xU,Cj];exact xX FP
 have h2:(BitVec.ofInt 64 (1:Int)).toNat=1:=rfl;show IntKind.i64.wrap ((BitVec.ofInt 64 (q:Int)&&&BitVec.ofInt 64 (1:Int)).toNat:Int)=_;rw[BitVec.toNat_and,h1,h2,Nat.and_one_is_mod,aZ _ FP]
def vi(Bn:Nat)(W:FC):Nat:=match W.cell? ⟨Bn,0,none⟩with|some (.int _ z)=>z.toNat|_=>0
def FF{W:FC}(h:W.cell? ⟨Bn,0,none⟩=some (.int .i64 m)):vi Bn W=m:=by
 rw[vi,h];simp
def Agc(F:Fence)(n:Nat)(h73:F.fn 281)(hro:F.round=none)(hn:1<=n)(Bn:Nat)(hm:m<2^31)(J:ac->FC->Prop){W:FC}
  (hc:W.cell? ⟨Bn,0,none⟩=some (.int .i64 m))(hf:W.frozen? ⟨Bn,0,none⟩=false)(hJ:∀pre A v,J pre A->J pre (A.setCell ⟨Bn,0,none⟩ v))
  (hY:∀pre x W1,J pre W1->pre.length<(dg m).length->YieldAt F (n-1) prog l #[.int .i64 x] W1 λe W'=>e=.returned (.bool true)/\J (pre++[x]) W'/\W'.heap[Bn]?=W1.heap[Bn]?)(h0:J [] W):
  CallsIn F n prog 281 #[.func (.yield l) #[] #[],Bn] W λe W'=>(∃v,e=.returned v)/\J (dg m) W':=by
 refine rP func281 rfl h73 ?_ hro;simp only[ntmps281,gX,bD,bW,Nat.reduceAdd,Nat.reduceSub,jV,jW,jX,jZ,iY,eG]
 gi_wp2
 gi_loopw[3] (λ_ wr=>∃(pre:ac)(k:Nat),k<2^31/\dg m=pre++dg k/\wr.cell? ⟨Bn,0,none⟩=some (.int .i64 k)/\wr.frozen? ⟨Bn,0,none⟩=false/\J pre wr) (λ_ wr=>vi Bn wr)
 case atStart=>exact⟨[],m,hm,rfl,hc,hf,h0⟩
 case round=>
  obtain⟨pre,k,hk,hx,hck,hfk,hJs⟩:=hrel;clear hc hf h0 hm;have hlft:=FF hck;by_cases hk0:k=0
  .subst hk0
   gi_wp2
   go_end0
   exact⟨⟨_,rfl⟩,by rw[hx,Og,fF];exact hJs⟩
  .have hst:=Xt k FP;have e1:(k:Int)-1=((k-1:Nat):Int):=FP
   have e2:bits .and .i64 ((k:Int)-1) 1=((k-1:Nat):Int)%2:=by rw[e1,xP (k-1) FP];rfl
   clear e1;obtain⟨fn,tmps,assign,body,hy,hR⟩:=hY pre (((k-1:Nat):Int)%2) wr hJs (by rw[hx,hst];simp)
   gi_wp2
   refine hR.mono ?_;rintro e W3⟨rfl,hJ3,hk3⟩;have hc3:W3.cell? ⟨Bn,0,none⟩=some (.int .i64 k):=(rQ (w:=wr) (a:=⟨Bn,0,none⟩) hk3).trans hck;have hf3:W3.frozen? ⟨Bn,0,none⟩=false:=(xY (w:=wr) (a:=⟨Bn,0,none⟩) hk3).trans hfk;have e3:((k:Int)-1)/2=(((k-1)/2:Nat):Int):=FP
   have hc4:(W3.setCell ⟨Bn,0,none⟩ (.int .i64 (((k:Int)-1)/2))).cell? ⟨Bn,0,none⟩=some (.int .i64 (((k-1)/2:Nat):Int)):=by
    rw[e3];exact CZ _ _ _ (by rw[hc3];rfl)
   have hf4:(W3.setCell ⟨Bn,0,none⟩ (.int .i64 (((k:Int)-1)/2))).frozen? ⟨Bn,0,none⟩=false:=by rw[Dh];exact hf3
   have hl4:=FF hc4;clear e3;have HC4:=aa hc4;have HF4:=aa hf4;have HL4:=aa hl4;clear hc4 hf4 hl4
   gi_wp2
   go_roundw
   case rel=>exact⟨pre++[((k-1:Nat):Int)%2],(k-1)/2,FP,by rw[hx,hst];simp,HC4.o,HF4.o,hJ _ _ _ hJ3⟩
   case measure=>rw[HL4.o,hlft];omega
def Ahg(F:Fence)(n:Nat)(h68:F.fn 259)(hro:F.round=none){m:Int}:
  CallsIn F n prog 259 #[.int .i64 m] w λe w'=>e=.returned (.func (.func 281) #[] #[.pointer (some ⟨w.heap.size,0,none⟩)])/\w'=w.alloc (.cells #[.int .i64 m] 3):=by
 refine rP func259 rfl h68 ?_ hro;simp only[ntmps259,gX,bD,bW,Nat.reduceAdd,Nat.reduceSub,jV,jW,jX,jZ,iY,eG]
 gi_wp2
 exact eA
end
section
variable{tmps:ai}{m:Int}{xs:ar}{base n:Nat}{P:O8}{e ty ty':O4}{w:FC}
attribute [local go_sem] oD
def pC{v:NY}(h:w.ownsRow base e 1 v n xs):∃a c,v=.slice a n c:=Av
def ZD:(prog.info? 3).map (λi=>(i.zero,i.size,i.bytes))=some (some (.int .i64 0),1,8):=FZ
def Mf:ET prog 124:=⟨λw=>FZ,FZ⟩
def Cz{fn:Func}{p t:Tmp}(h:fn.results=#[.cell p ty,.tmp t]){B:Nat}{v:NY}(hp:tmps.getD p undef=.pointer B)(ht:ET P ty)(hb:Boxed w B ty' v):(results fn tmps).run P w=.ok (.tuple #[v,tmps.getD t undef]) w:=by
 have hp':tmps[p]?.getD undef=.pointer B:=by simpa using hp
 have hl:(loadVar ty ⟨B,0,none⟩).run P w=.ok v w:=by
  simp only[loadVar,aL,aS,ht.1,lU,jq,run_load,hb.cell]
 simp[results,h,hp',asAddr,hl]
def Af0(F:Fence)(n:Nat)(h34:F.fn 233)(h68:F.fn 259)(h73:F.fn 281)(hro:F.round=none)(hn:3<=n)(m:Nat)(hm:m<2^31)(w:FC):
  CallsIn F n prog 233 #[.int .i64 m] w λe W'=>(∃v,e=.returned (.tuple #[v,.int .i64 0])/\W'.ownsRow w.heap.size 3 1 v (dg m).length (vs .i64 (dg m)))/\Below w.heap.size w W':=by
 have h1:1<=n:=FP
 have g1:¬(m:Int)<0:=FP
 have g2:¬(2147483647:Int)<m:=FP
 obtain⟨i0,hi,hz0,hz1,hz2⟩:=info_parts ZD;refine callsIn_of_wp_marks func233 rfl h34 ?_ hro;simp only[ntmps233,gX,bD,bW,Nat.reduceAdd,Nat.reduceSub,jV,jW,jX,jZ,iY,eG]
 gi_wp2_with(gi_at_call 259;refine(Ahg F (n-1) h68 hro).mono ?_;rintro e w'⟨rfl,rfl⟩)
 have bO:=Boxed.new w 124 (.slice none 0 0);have bN:=Boxed.new (w.alloc (.cells #[.slice none 0 0] 124)) 3 (.int .i64 m);rw[qN]at bN;have hB0:Below w.heap.size w ((w.alloc (.cells #[.slice none 0 0] 124)).alloc (.cells #[.int .i64 m] 3)):=((Below.refl _ w).alloc (aX _) _).alloc G5 _
 refine Adx hro h1 (gf:=281) (lb:=#[.pointer (some ⟨w.heap.size+1,0,none⟩)]) rfl h73 (enters_of func281 FZ rfl) rfl (w.heap.size+1) G5 (dg m)
  (λl J W hW hJ hY h0=>Agc F (n-1) h73 hro FP (w.heap.size+1) hm J ((rQ (a:=⟨w.heap.size+1,0,none⟩) hW).trans bN.cell) ((xY (a:=⟨w.heap.size+1,0,none⟩) hW).trans bN.frozen) hJ hY h0)
  (λpre W=>((∃v,Boxed W w.heap.size 124 v/\W.ownsRow (w.heap.size+2) 3 1 v pre.length (pre.map (Value.int .i64))/\True)/\Below w.heap.size w W)/\w.heap.size+2<=W.heap.size)
  (OwnFrom.and (OwnFrom.and (Own.from (holdsRow_own (w.heap.size+2) w.heap.size 124 3 1 (λ(pre:ac)=>pre.length) (λ(pre:ac)=>pre.map (Value.int .i64)) (λ_ _=>True)) _) (ownFrom_below (aX _) G8)) (λ_ _ _ _ hs hg _=>jy hs hg.size))
  (λpre A v hs=>by
   obtain⟨⟨⟨u,hu,hr,_⟩,hB⟩,hsz⟩:=hs
   exact⟨⟨⟨u,(Below.heap_setCell A ⟨w.heap.size+1,0,none⟩ v w.heap.size G5).trans hu,ownsRow_setCell_below hr G5 v,trivial⟩,hB.setCell (p:=⟨w.heap.size+1,0,none⟩) G5 v⟩,by simpa using hsz⟩)
  ⟨⟨⟨_,bO.alloc _,oJ _ _ _ _,trivial⟩,hB0⟩,G5⟩
  (λx=>{tmps:=#[.int .i64 m,undef,.pointer (some ⟨w.heap.size,0,none⟩),.int .i64 0,.int .i64 x,.int .i64 m,.bool false,.bool false,.int .i64 m,.bool false,.bool false,.int .i64 m,.func (.func 281) #[] #[.pointer (some ⟨w.heap.size+1,0,none⟩)],.int .i64 x,undef,undef,undef,undef,undef],defers:=[]}) ?assign ?body ?done
 case assign=>
  intro l x W K hK
  gi_wp2
  exact hK
 case body=>
  rintro l pre x W⟨⟨⟨v,hv,hrow,_⟩,hB⟩,hsz⟩hlt;have hc:=hv.cell;have hle:=nc 31 m hm
  gi_wp2_with(gi_at_builtin;refine wpListIn_append_own _ rfl _ _ 124 rfl (w.heap.size+2) 3 i0 (.int .i64 0) 1 8 underlying124 hi hz0 hz1 hz2 rfl FU _ _ _ rfl (hrow.alloc _) ⟨W.heap.size,0,none⟩ 1 1 [.int .i64 x] rfl rfl (cell_one_new _ _ _) (by simp[Value.oneCell']) KJ FP G8 ?_;intro v' w1 hown' hgrow _;obtain⟨g',cap',rfl⟩:=ownsRow_succ hown';obtain⟨hv1,hv2,hr2,hk2,hb2⟩:=hv.appended FU (ownsRow_base hrow (base':=w.heap.size) FP) hB.size (aX _) (ownsRow_base hown' (base':=w.heap.size) FP) hgrow;have hc1:=hv1.cell;have hf1:=hv1.frozen)
  have hne:some (w.heap.size+1)≠v.ownBlock:=λe=>by have:=(hrow.lt _ e.symm).1;omega
  refine⟨hk2.from _,?_,⟨⟨⟨_,hv2,by simpa using ownsRow_setCell_below hown' (a:=⟨w.heap.size,0,none⟩) G5 _,trivial⟩,hB.trans hb2⟩,?_⟩⟩
  .exact(Below.heap_setCell _ _ _ _ G5).trans ((hgrow.block _ G8 hne).trans (Below.heap_alloc _ _ _ FP))
  .exact jy hsz hk2.size
 case done=>
  rintro D W hD⟨⟨⟨v,hv,hrow,_⟩,hB⟩,hsz⟩hK;obtain⟨ad,cp,rfl⟩:=pC hrow;have hc:=hv.cell;have hf:=hv.frozen
  gi_wp2
  have hK2:=(KeepsOthers.setCell W ⟨w.heap.size,0,none⟩ (.slice ad (dg m).length cp)).same D _ hK rfl;have hD2:w.heap.size+2<=D:=by simpa using hD
  have hbx:Boxed ((W.setCell ⟨w.heap.size,0,none⟩ (.slice ad (dg m).length cp)).putObj D (.deferred none)) w.heap.size 124 (.slice ad (dg m).length cp):=(hv.set _).kept (grownBy_putObj' _ D _) G8;have hr2:=ownsRow_putObj (ownsRow_setCell_below hrow (a:=⟨w.heap.size,0,none⟩) G5 (.slice ad (dg m).length cp)) (.deferred none) hK2 rfl;have hbl:=(hB.setCell (p:=⟨w.heap.size,0,none⟩) (aX _) (.slice ad (dg m).length cp)).trans (belowK_b (w:=w) (aX _) _ D _ (.deferred none) FP hK2 rfl rfl);refine⟨G5,.inl ⟨_,_,rfl,run_takeDeferred hK2,?_⟩⟩;refine⟨_,Cz rfl rfl Mf hbx,⟨_,rfl,ownsRow_base hr2 FP⟩,hbl⟩
def TB(F:Fence)(n:Nat)(h34:F.fn 233)(hro:F.round=none)(hm:m<0)(w:FC):
  CallsIn F n prog 233 #[.int .i64 m] w (RB w (.tuple #[.slice none 0 0,.int .i64 2])):=Kb
def Zi(F:Fence)(n:Nat)(h34:F.fn 233)(hro:F.round=none)(m:Int)(hm:2147483647<m)(w:FC):
  CallsIn F n prog 233 #[.int .i64 m] w (RB w (.tuple #[.slice none 0 0,.int .i64 2])):=by
 have h0:¬m<0:=FP
 exact Kb
def qq(m:Int):ac:=if 0<=m/\m<=2147483647 then dg m.toNat else[]
def qs(m:Int):Int:=if 0<=m/\m<=2147483647 then 0 else 2
def oS(w:FC)(l:ac)(e:Int)(x:Ending)(w':FC):Prop:=(∃v,x=.returned (.tuple #[v,.int .i64 e])/\w'.ownsRow w.heap.size 3 1 v l.length (vs .i64 l))/\Below w.heap.size w w'
def Kj(m:Int)(w:FC):ak 233 #[.int .i64 m] w (oS w (qq m) (qs m)):=by
 by_cases h:0<=m/\m<=2147483647
 .obtain⟨k,rfl⟩:=dB h.1;rw[qq,qs,aQ h,aQ h,gB];exact oH.1 (Af0 Fence.wide 3 trivial trivial trivial rfl (aX _) k FP w)
 .rw[qq,qs,aP h,aP h];by_cases h0:m<0
  .exact(oH.1 (TB Fence.wide 3 trivial rfl h0 w)).mono λe W'⟨he,hb⟩=>⟨⟨_,he,oJ _ _ _ _⟩,hb⟩
  .exact(oH.1 (Zi Fence.wide 3 trivial rfl m FP w)).mono λe W'⟨he,hb⟩=>⟨⟨_,he,oJ _ _ _ _⟩,hb⟩
end
open Go Tryz Go.RowKit
section
variable{k n:Int}{w:FC}
def fl(h:-9223372036854775808<=n/\n<=9223372036854775807):wrap64 n=n:=by
 unfold wrap64;omega
def Ed(w:FC)(v e:Int)(x:Ending)(w':FC):Prop:=x=.returned (.tuple #[.int .i64 v,.int .i64 e])/\Below w.heap.size w w'
def Wj(n k d:Int):Prop:=0<=n/\n<=2147483647/\0<=k/\k<=30/\(d=0\/d=1)
instance(n k d:Int):Decidable (Wj n k d):=by unfold Wj;infer_instance
def QF(n k d:Int):Int:=n+(1+d)*2^k.toNat
def OJ(n k d:Int):Int:=if Wj n k d/\QF n k d<=2147483647 then QF n k d else 0
def ZU(n k d:Int):Int:=if Wj n k d/\QF n k d<=2147483647 then 0 else 2
def KF(k:Nat)(hk:k<=30):1<=(2:Int)^k/\(2:Int)^k<=1073741824:=by
 have h:=jD (show 0<2 by omega) hk;have h0:0<2^k:=xg FP;have e:((2^k:Nat):Int)=(2:Int)^k:=by push_cast;rfl
 rw[<-e];have e2:2^30=1073741824:=FU
 omega
def ZP{d:Int}(g0:n<0):ak 216 #[.int .i64 n,.int .i64 k,.int .i64 d] w (Ed w 0 2):=mS
def A2R{d:Int}(g0:¬n<0)(g1:2147483647<n):ak 216 #[.int .i64 n,.int .i64 k,.int .i64 d] w (Ed w 0 2):=mS
def A2Q{d:Int}(g0:¬n<0)(g1:¬2147483647<n)(g2:k<0):ak 216 #[.int .i64 n,.int .i64 k,.int .i64 d] w (Ed w 0 2):=mS
def Ro{d:Int}(g0:¬n<0)(g1:¬2147483647<n)(g2:¬k<0)(g3:30<k):ak 216 #[.int .i64 n,.int .i64 k,.int .i64 d] w (Ed w 0 2):=mS
def A2O{d:Int}(g0:¬n<0)(g1:¬2147483647<n)(g2:¬k<0)(g3:¬30<k)(g4:¬d=0)(g5:¬d=1):ak 216 #[.int .i64 n,.int .i64 k,.int .i64 d] w (Ed w 0 2):=by
 have b6:(d !=0)=true:=by simpa using g4
 have b7:(d !=1)=true:=by simpa using g5
 exact mS
def PW(n:Int){k:Nat}(b1:¬n<0)(b2:¬2147483647<n)(hk:k<=30)(hs:¬2147483647<n+2^k):ak 216 #[.int .i64 n,.int .i64 k,.int .i64 0] w (Ed w (n+2^k) 0):=Lk
def A0W{k:Nat}(b1:¬n<0)(b2:¬2147483647<n)(hk:k<=30)(hs:2147483647<n+2^k):ak 216 #[.int .i64 n,.int .i64 k,.int .i64 0] w (Ed w 0 2):=Lk
def A0T(n:Int){k:Nat}(b1:¬n<0)(b2:¬2147483647<n)(hk:k<=30)(hs:¬2147483647<n+2*2^k):ak 216 #[.int .i64 n,.int .i64 k,.int .i64 1] w (Ed w (n+2*2^k) 0):=LD
def Vc{k:Nat}(b1:¬n<0)(b2:¬2147483647<n)(hk:k<=30)(hs:2147483647<n+2*2^k):ak 216 #[.int .i64 n,.int .i64 k,.int .i64 1] w (Ed w 0 2):=LD
def add_any(n k d:Int):ak 216 #[.int .i64 n,.int .i64 k,.int .i64 d] w (Ed w (OJ n k d) (ZU n k d)):=by
 by_cases ha:Wj n k d
 .obtain⟨h1,h2,h3,h4,hd⟩:=ha;have ha:Wj n k d:=⟨h1,h2,h3,h4,hd⟩;obtain⟨k,rfl⟩:=dB h3;by_cases hs:QF n k d<=2147483647
  .rw[OJ,ZU,aQ ⟨ha,hs⟩,aQ ⟨ha,hs⟩];rcases hd with rfl|rfl
   .have e:QF n k 0=n+2^k:=by simp[QF]
    rw[e]at hs⊢;exact PW n FP FP FP FP
   .have e:QF n k 1=n+2*2^k:=by simp[QF]
    rw[e]at hs⊢;exact A0T n FP FP FP FP
  .rw[OJ,ZU,aP (λh=>hs h.2),aP (λh=>hs h.2)];rcases hd with rfl|rfl
   .have e:QF n k 0=n+2^k:=by simp[QF]
    rw[e]at hs;exact A0W FP FP FP FP
   .have e:QF n k 1=n+2*2^k:=by simp[QF]
    rw[e]at hs;exact Vc FP FP FP FP
 .rw[OJ,ZU,aP (λh=>ha h.1),aP (λh=>ha h.1)];by_cases g0:n<0
  .exact ZP g0
  by_cases g1:2147483647<n
  .exact A2R g0 g1
  by_cases g2:k<0
  .exact A2Q g0 g1 g2
  by_cases g3:30<k
  .exact Ro g0 g1 g2 g3
  exact A2O g0 g1 g2 g3 (λh=>ha ⟨FP,FP,FP,FP,.inl h⟩) (λh=>ha ⟨FP,FP,FP,FP,.inr h⟩)
end
open Go Go.RowKit
section
variable{a:OA}{ops:bl}{Q:Exit->aJ}{i:Nat}{o:Oz}{P:O8}{w:FC}{S:OE}
def Ah{r:Ou}{v:NY}(ho:ops.toList[i]?=some o)(hw:MZ o ops a)
  (hrun:∀W,S W->(execOp a.eval o).run P W=.ok (.value v) W)(h:Ej P ops Q r S (a.put o.dst v) w):Ej P ops Q ((i,true)::r) S a w:=
 NZ I8 hw hrun h
def iL{r:Ou}(ho:ops.toList[i]?=some o)(hw:MZ o ops a)
  (h:∀K:aJ,(∀a' w',(∃S':FC->Prop,(∀W,S' W->S W)/\S' w'/\Ej P ops Q r S' a' w')->K a' w')->o.wp P a w K Q):Ej P ops Q ((i,false)::r) S a w:=
 WY I8 hw h
def TC(t:ac)(m:Nat)(h:m<t.length):t.drop m=gi t m::t.drop (m+1):=by
 rw[jg h];simp[gi,fU,fe h]
end
open Go Go.RowKit Go.Shelf
attribute [local go_sem] oD
def AA.boxed{w:FC}{g:Nat}{v:NY}(h:AA w g #[v]):w.cell? ⟨g,0,none⟩=some v/\w.frozen? ⟨g,0,none⟩=false:=by
 obtain⟨t,ht⟩:=h;exact⟨by simp[World.cell?,ht],by simp[World.frozen?,ht]⟩
def A5{w:FC}{base:Nat}{v:NY}{l:ac}(h:w.ownsRow base 3 1 v (vs .i64 l).length (vs .i64 l)):w.ownsRow base 3 1 v l.length (vs .i64 l):=by rw[Ai]at h;exact h
end Go.Proofs.YtkpbhdhkdonghaaGreat
