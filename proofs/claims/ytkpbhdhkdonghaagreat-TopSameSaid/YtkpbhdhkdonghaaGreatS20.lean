/- Part 20 of the proof. -/
import Derived.Test.YtkpbhdhkdonghaaGreatS14
import Derived.Test.YtkpbhdhkdonghaaGreatS19
set_option linter.all false
set_option maxHeartbeats 4000000
set_option maxRecDepth 100000
namespace Go.Proofs.YtkpbhdhkdonghaaGreat
open Go Tryz Go.RowKit
def eQ(l:ac)(r:Int):Bool:=ly l&&decide (0<=r/\r<=2147483647)
def AeX:eQ new 0=true:=by
 rw[eQ,(v7 FW nl.bytes).2 nl];rfl
def pE{w:FC}:ak 192 #[] w (RB w (.agg (EV new 0))):=by
 go_enter func192,ntmps192;have hm:=Own.nil w
 go_wp2_with(first
 |refine AL hm rfl rfl qo ?_;intro w2 g2 hm2;clear hm
 |(go_at_call 169;have _t:=hm2;refine(new_any).mono ?_;rintro e w3⟨rfl,hb3⟩;have hm3:=hm2.call hb3;clear hm2)
 |refine A8 rfl (Acr rfl rfl FW) ?_
 |refine AY 0 hm3 rfl rfl rfl rfl rfl (gN FW) (by rw[WE _ FW,WE _ DK]) xv ?_;intro w4 hm4;simp only[List.set]at hm4;clear hm3)
 refine aD (AQ rfl rfl (hm4.row 0 rfl) (gN FW)) rfl ?_;exact⟨rfl,hm4.below⟩
def E'(w:FC)(l:ac)(x:Ending)(w':FC):Prop:=(∃v,x=.returned v/\w'.ownsRow w.heap.size 3 1 v l.length (vs .i64 l))/\Below w.heap.size w w'
section
variable{a:OA}{ops:bl}{cs:ai}{Q:Exit->aJ}{r:Int}{l:ac}{g i off:Nat}{o:Oz}{x:O7}{P:O8}{ty:O4}{w:FC}{S:OE}
def Tm{r:Ou}(ho:ops.toList[i]?=some o)(hw:Region.wanted o (yielded ops a.tmps)=false)
  (h:Ej P ops Q r S (a.put o.dst undef) w):Ej P ops Q ((i,true)::r) S a w:=
 Z' I8 hw h
def tT{r:Ou}(ho:ops.toList[i]?=some o)(hw:Region.wanted o (yielded ops a.tmps)=false)(hS:S w)
  (h:Ej P ops Q r S (a.put o.dst undef) w):Ej P ops Q ((i,false)::r) S a w:=
 SM I8 hw hS h
def TD(ho:o.op=.load ty x)(hx:a.eval x=.pointer (some ⟨g,off,none⟩)){vs:ai}
  (hr:AA w g cs)(ht:Aq P ty vs.size)(hv:cs.extract off (off+vs.size)=vs)(hf:off+vs.size<=cs.size):(execOp a.eval o).run P w=.ok (.value (.agg vs)) w:=by
 have hrun:=Gp (P:=P) (off:=off) ho hx hr ht hf;rwa[hv]at hrun
def AdL(hl:l.length=256)(hn:((l==new)&&(r==0))=true):ak 231 #[.agg (EV l r)] w (RB w (.bool (eQ l r))):=by
 have ho:eQ l r=true:=by
  simp only[cR,iI]at hn;rw[hn.1,hn.2];exact AeX
 have HO:=aa ho;clear ho;go_enter func231,ntmps231;have hm:=Own.nil w
 go_wp2_with(first
 |refine Ar hm rfl rfl rfl ?_;intro w1 g hm1;clear hm)
 refine D7 [(0,true),(1,false),(2,true),(3,true),(4,true),(5,true),(6,true),(7,true),(8,true),(9,true),(10,true),(11,true),(12,true),(13,true),(14,true),(15,false),(16,true),(17,true),(18,true)] (λW=>Below w.heap.size w W/\AA W g (EV l r)) rfl FZ rfl FZ (λ_ _ d _ _ h=>by cases d<;>exact h) ⟨(hm1.drawn (w1.drawn+1)).below,(hm1.drawn (w1.drawn+1)).row 0 rfl⟩ ?_;have hm8:=hm1.drawn (w1.drawn+1);generalize ({w1 with drawn:=w1.drawn+1}:FC)=w8 at hm8⊢;refine Ah rfl rfl (λW hW=>Du rfl rfl hW.2 (gN hl)) ?_;simp only[Act.put,s3];refine iL rfl rfl (λK hK=>?_);go_simp;refine(pE).mono ?_;rintro e w9⟨rfl,hb9⟩;have hm9:=hm8.call hb9;refine hK _ _ ⟨_,λ_ h=>h,⟨hm9.below,hm9.row 0 rfl⟩,?_⟩;clear hK K hm8;refine Ah rfl rfl (λW hW=>so rfl rfl rfl hl FW hn) ?_;simp only[Act.put,s3];refine Ah rfl rfl (λW hW=>by go_simp;rfl) ?_
 simp only[Act.put,s3];refine Tm rfl rfl ?_;simp only[Act.put,s3];refine Tm rfl rfl ?_;simp only[Act.put,s3];refine Tm rfl rfl ?_;simp only[Act.put,s3];refine Tm rfl rfl ?_;simp only[Act.put,s3];refine Tm rfl rfl ?_;simp only[Act.put,s3];refine Tm rfl rfl ?_;simp only[Act.put,s3];refine Tm rfl rfl ?_;simp only[Act.put,s3];refine Tm rfl rfl ?_;simp only[Act.put,s3];refine Tm rfl rfl ?_;simp only[Act.put,s3];refine Tm rfl rfl ?_;simp only[Act.put,s3];refine Tm rfl rfl ?_;simp only[Act.put,s3];refine tT rfl rfl ⟨hm9.below,hm9.row 0 rfl⟩ ?_;simp only[Act.put,s3];refine Tm rfl rfl ?_;exact J2
def Qp(hl:l.length=256)(hn:((l==new)&&(r==0))=false)(h0:r<0):ak 231 #[.agg (EV l r)] w (RB w (.bool (eQ l r))):=by
 have ho:eQ l r=false:=by
  rw[eQ,aU FP,Bool.and_false]
 have q0:decide (0<=r)=false:=an;have HO:=aa ho;clear ho;go_enter func231,ntmps231;have hm:=Own.nil w
 go_wp2_with(first
 |refine Ar hm rfl rfl rfl ?_;intro w1 g hm1;clear hm)
 refine D7 [(0,true),(1,false),(2,true),(3,true),(4,true),(5,true),(6,true),(7,true),(8,true),(9,true),(10,true),(11,true),(12,true),(13,true),(14,true),(15,false),(16,true),(17,true),(18,true)] (λW=>Below w.heap.size w W/\AA W g (EV l r)) rfl FZ rfl FZ (λ_ _ d _ _ h=>by cases d<;>exact h) ⟨(hm1.drawn (w1.drawn+1)).below,(hm1.drawn (w1.drawn+1)).row 0 rfl⟩ ?_;have hm8:=hm1.drawn (w1.drawn+1);generalize ({w1 with drawn:=w1.drawn+1}:FC)=w8 at hm8⊢;refine Ah rfl rfl (λW hW=>Du rfl rfl hW.2 (gN hl)) ?_;simp only[Act.put,s3];refine iL rfl rfl (λK hK=>?_);go_simp;refine(pE).mono ?_;rintro e w9⟨rfl,hb9⟩;have hm9:=hm8.call hb9;refine hK _ _ ⟨_,λ_ h=>h,⟨hm9.below,hm9.row 0 rfl⟩,?_⟩;clear hK K hm8;refine Ah rfl rfl (λW hW=>so rfl rfl rfl hl FW hn) ?_;simp only[Act.put,s3];refine Ah rfl rfl (λW hW=>by go_simp;rfl) ?_
 simp only[Act.put,s3];refine Ah rfl rfl (λW hW=>by go_simp;rfl) ?_;simp only[Act.put,s3];refine Ah rfl rfl (λW hW=>Aa rfl rfl hW.2 DR (l4 hl)) ?_;simp only[Act.put,s3];refine Ah rfl rfl (λW hW=>by go_simp;rfl) ?_;simp only[Act.put,s3];refine Ah rfl rfl (λW hW=>by go_simp;rfl) ?_;simp only[Act.put,s3];refine Tm rfl rfl ?_;simp only[Act.put,s3];refine Tm rfl rfl ?_;simp only[Act.put,s3];refine Tm rfl rfl ?_;simp only[Act.put,s3];refine Ah rfl rfl (λW hW=>by go_simp;rfl) ?_;simp only[Act.put,s3];refine Ah rfl rfl (λW hW=>by go_simp;rfl) ?_;simp only[Act.put,s3];refine Tm rfl rfl ?_;simp only[Act.put,s3];refine Tm rfl rfl ?_;simp only[Act.put,s3];refine tT rfl rfl ⟨hm9.below,hm9.row 0 rfl⟩ ?_;simp only[Act.put,s3];refine Ah rfl rfl (λW hW=>by go_simp;rfl) ?_;simp only[Act.put,s3];refine Ah rfl rfl (λW hW=>by go_simp;rfl) ?_;simp only[Act.put,s3]
 exact Er
def W6(hl:l.length=256)(hn:((l==new)&&(r==0))=false)(h0:2147483647<r):ak 231 #[.agg (EV l r)] w (RB w (.bool (eQ l r))):=by
 have ho:eQ l r=false:=by
  rw[eQ,aU FP,Bool.and_false]
 have q0:decide (0<=r)=true:=az;have q1:decide (r<=2147483647)=false:=an;have HO:=aa ho;clear ho;go_enter func231,ntmps231;have hm:=Own.nil w
 go_wp2_with(first
 |refine Ar hm rfl rfl rfl ?_;intro w1 g hm1;clear hm)
 refine D7 [(0,true),(1,false),(2,true),(3,true),(4,true),(5,true),(6,true),(7,true),(8,true),(9,true),(10,true),(11,true),(12,true),(13,true),(14,true),(15,false),(16,true),(17,true),(18,true)] (λW=>Below w.heap.size w W/\AA W g (EV l r)) rfl FZ rfl FZ (λ_ _ d _ _ h=>by cases d<;>exact h) ⟨(hm1.drawn (w1.drawn+1)).below,(hm1.drawn (w1.drawn+1)).row 0 rfl⟩ ?_;have hm8:=hm1.drawn (w1.drawn+1);generalize ({w1 with drawn:=w1.drawn+1}:FC)=w8 at hm8⊢;refine Ah rfl rfl (λW hW=>Du rfl rfl hW.2 (gN hl)) ?_;simp only[Act.put,s3];refine iL rfl rfl (λK hK=>?_);go_simp;refine(pE).mono ?_;rintro e w9⟨rfl,hb9⟩;have hm9:=hm8.call hb9;refine hK _ _ ⟨_,λ_ h=>h,⟨hm9.below,hm9.row 0 rfl⟩,?_⟩;clear hK K hm8;refine Ah rfl rfl (λW hW=>so rfl rfl rfl hl FW hn) ?_;simp only[Act.put,s3];refine Ah rfl rfl (λW hW=>by go_simp;rfl) ?_
 simp only[Act.put,s3];refine Ah rfl rfl (λW hW=>by go_simp;rfl) ?_;simp only[Act.put,s3];refine Ah rfl rfl (λW hW=>Aa rfl rfl hW.2 DR (l4 hl)) ?_;simp only[Act.put,s3];refine Ah rfl rfl (λW hW=>by go_simp;rfl) ?_;simp only[Act.put,s3];refine Ah rfl rfl (λW hW=>by go_simp;rfl) ?_;simp only[Act.put,s3];refine Ah rfl rfl (λW hW=>by go_simp;rfl) ?_;simp only[Act.put,s3];refine Ah rfl rfl (λW hW=>Aa rfl rfl hW.2 DR (l4 hl)) ?_;simp only[Act.put,s3];refine Ah rfl rfl (λW hW=>by go_simp;rfl) ?_;simp only[Act.put,s3];refine Ah rfl rfl (λW hW=>by go_simp;rfl) ?_;simp only[Act.put,s3];refine Ah rfl rfl (λW hW=>by go_simp;rfl) ?_;simp only[Act.put,s3];refine Tm rfl rfl ?_;simp only[Act.put,s3];refine Tm rfl rfl ?_;simp only[Act.put,s3];refine tT rfl rfl ⟨hm9.below,hm9.row 0 rfl⟩ ?_;simp only[Act.put,s3];refine Ah rfl rfl (λW hW=>by go_simp;rfl) ?_
 exact J2
def Uu(hl:l.length=256)(hb:Bytes l)(hn:((l==new)&&(r==0))=false)(h0:0<=r/\r<=2147483647):ak 231 #[.agg (EV l r)] w (RB w (.bool (eQ l r))):=by
 have ho:eQ l r=ly l:=by
  rw[eQ,aW h0,uq]
 have q0:decide (0<=r)=true:=az;have q1:decide (r<=2147483647)=true:=az;have HO:=aa ho;clear ho;go_enter func231,ntmps231;have hm:=Own.nil w
 go_wp2_with(first
 |refine Ar hm rfl rfl rfl ?_;intro w1 g hm1;clear hm)
 refine D7 [(0,true),(1,false),(2,true),(3,true),(4,true),(5,true),(6,true),(7,true),(8,true),(9,true),(10,true),(11,true),(12,true),(13,true),(14,true),(15,false),(16,true),(17,true),(18,true)] (λW=>Below w.heap.size w W/\AA W g (EV l r)) rfl FZ rfl FZ (λ_ _ d _ _ h=>by cases d<;>exact h) ⟨(hm1.drawn (w1.drawn+1)).below,(hm1.drawn (w1.drawn+1)).row 0 rfl⟩ ?_;have hm8:=hm1.drawn (w1.drawn+1);generalize ({w1 with drawn:=w1.drawn+1}:FC)=w8 at hm8⊢;refine Ah rfl rfl (λW hW=>Du rfl rfl hW.2 (gN hl)) ?_;simp only[Act.put,s3];refine iL rfl rfl (λK hK=>?_);go_simp;refine(pE).mono ?_;rintro e w9⟨rfl,hb9⟩;have hm9:=hm8.call hb9;refine hK _ _ ⟨_,λ_ h=>h,⟨hm9.below,hm9.row 0 rfl⟩,?_⟩;clear hK K hm8;refine Ah rfl rfl (λW hW=>so rfl rfl rfl hl FW hn) ?_;simp only[Act.put,s3];refine Ah rfl rfl (λW hW=>by go_simp;rfl) ?_
 simp only[Act.put,s3];refine Ah rfl rfl (λW hW=>by go_simp;rfl) ?_;simp only[Act.put,s3];refine Ah rfl rfl (λW hW=>Aa rfl rfl hW.2 DR (l4 hl)) ?_;simp only[Act.put,s3];refine Ah rfl rfl (λW hW=>by go_simp;rfl) ?_;simp only[Act.put,s3];refine Ah rfl rfl (λW hW=>by go_simp;rfl) ?_;simp only[Act.put,s3];refine Ah rfl rfl (λW hW=>by go_simp;rfl) ?_;simp only[Act.put,s3];refine Ah rfl rfl (λW hW=>Aa rfl rfl hW.2 DR (l4 hl)) ?_;simp only[Act.put,s3];refine Ah rfl rfl (λW hW=>by go_simp;rfl) ?_;simp only[Act.put,s3];refine Ah rfl rfl (λW hW=>by go_simp;rfl) ?_;simp only[Act.put,s3];refine Ah rfl rfl (λW hW=>by go_simp;rfl) ?_;simp only[Act.put,s3];refine Ah rfl rfl (λW hW=>by go_simp;rfl) ?_;simp only[Act.put,s3];refine Ah rfl rfl (λW hW=>TD rfl rfl hW.2 (F6 _ hl) (yY hl) (by rw[Ih,WE _ hl,hl];omega)) ?_;simp only[Act.put,s3]
 refine iL rfl rfl (λK hK=>?_);go_simp;refine(P8 _ hl hb).mono ?_;rintro e w10⟨rfl,hb10⟩;have hm10:=hm9.call hb10;refine hK _ _ ⟨_,λ_ h=>h,⟨hm10.below,hm10.row 0 rfl⟩,?_⟩;clear hK K hm9;refine Ah rfl rfl (λW hW=>by go_simp;rfl) ?_;simp only[Act.put,s3];refine Ah rfl rfl (λW hW=>by go_simp;rfl) ?_;simp only[Act.put,s3];refine Ah rfl rfl (λW hW=>by go_simp;rfl) ?_;simp only[Act.put,s3];refine IY ?_;go_simp;go_wp2;go_ret;exact⟨by rw[HO.o];rfl,hm10.below⟩
def Mj(r:Int)(w:FC)(hl:l.length=256)(hb:Bytes l):ak 231 #[.agg (EV l r)] w (RB w (.bool (eQ l r))):=by
 cases hn:((l==new)&&(r==0))with
|true=>exact AdL hl hn
|false=>
  by_cases h0:r<0
  .exact Qp hl hn h0
  by_cases h1:2147483647<r
  .exact W6 hl hn h1
  exact Uu hl hb hn ⟨FP,FP⟩
end
section
variable{r s:Int}{b l m:ac}{w:FC}
def cG:ac->ac->Nat->ac->ac×Nat×ac
|[],l,r,out=>(l,r,out)
|c::b,l,r,out=>if pos l c=0 then cG b (el l c) (r+1) out else cG b (el l c) 0 (out++dg r++[pos l c+1])
def ZN(b:ac)(k:Nat)(h:k<b.length)(l:ac)(r:Nat)(out:ac):cG (b.drop k) l r out=if pos l (gi b k)=0 then cG (b.drop (k+1)) (el l (gi b k)) (r+1) out else cG (b.drop (k+1)) (el l (gi b k)) 0 (out++dg r++[pos l (gi b k)+1]):=by
 rw[TC b k h];rfl
def Uf(l:ac)(r:Int)(b:ac):Bool:=eQ l r&&decide ((b.length:Int)<=2147483647-r)
def nu(l:ac)(r:Int)(b:ac):Int:=if Uf l r b then 0 else 2
def Pl(w:FC)(l:ac)(r:Int)(out:ac)(e:Int)(x:Ending)(w':FC):Prop:=(∃v,x=.returned (.tuple #[.agg (EV l r),v,.int .i64 e])/\w'.ownsRow w.heap.size 3 1 v out.length (vs .i64 out))/\Below w.heap.size w w'
def Bi(hl:l.length=256)(hm:m.length=256):(EV l r).size=(EV m s).size:=by rw[WE r hl,WE s hm]
def qD(hl:l.length=256)(hm:m.length=256):0+(B m).size<=(EV l r).size:=by rw[Ih,WE r hl,hm];omega
def Br(hl:l.length=256):256<(EV l r).size:=by rw[WE r hl];omega
def Ys(r:Nat){v:NY}(hvl:Vl l)(hbb:Bytes b)(hv:In .u8 w v b)(hlen:b.length<=1000)(hr:(b.length:Int)<=2147483647-r):ak 191 #[.agg (EV l r),v] w (Pl w (cG b l r []).1 (cG b l r []).2.1 (cG b l r []).2.2 0):=by
 have hl:=hvl.len
 have CV:Hid (∀w,ak 231 #[.agg (EV l r)] w (RB w (.bool true))):=aa (λw=>by
  have e:eQ l r=true:=by
   rw[eQ,(v7 hl hvl.bytes).2 hvl,aW ⟨FP,FP⟩];rfl
  have h:=Mj r w hl hvl.bytes
  rwa[e]at h)
 obtain⟨ad,cp,rfl,hc⟩:=hv;obtain⟨i5,hE5⟩:=Md;obtain⟨i3,hE⟩:=nR;have HE5:=aa hE5;have HE:=aa hE;have HC:=aa hc;have HBB:=aa hbb;have HVL:=aa hvl;clear hc hE hE5 hvl hbb;have hw:IntKind.i64.wrap (2147483647-(r:Int))=2147483647-r:=av;have q0:¬2147483647-(r:Int)<(b.length:Int):=FP
 have q1:decide (2147483647-(r:Int)<(b.length:Int))=false:=aU q0;go_enter func191,ntmps191;have hm:=(Own.nil w).vm 3
 go_wp2_with(first
 |refine Ar hm rfl rfl rfl ?_;intro w1 g hm1;clear hm
 |refine AL hm1 rfl rfl qo ?_;intro w2 g2 hm2;clear hm1
 |refine Ag rfl rfl rfl (hm2.row 1 rfl) (gN hl) ?_
 |(go_at_call 231;have _t:=hm2;refine(CV.o _).mono ?_;rintro e w3⟨rfl,hb3⟩;have hm3:=hm2.call hb3;clear hm2)
 |refine A8 rfl (Aa rfl rfl (hm3.row 1 rfl) DR (l4 hl)) ?_)
 go_loopw[7,27] (λo u wr=>∃(k:Nat)(L:ac)(s:Nat)(out:ac)(ao:Ov)(co:Nat),k<=b.length/\u=.int .i64 k/\o=.slice ao out.length co/\Hid (Vl L)/\(s:Int)+(b.length-k)<=2147483647/\out.length<=33*k/\Hid (cG b l r []=cG (b.drop k) L s out)/\Own w wr [(g2,EV zeros 0),(g,EV L s)] [(.slice ao out.length co,3,vs .i64 out)]) (λ_ u _=>b.length-(intOf u).toNat)
 case atStart=>exact⟨0,l,r,[],none,0,FP,rfl,rfl,HVL,FP,G5,rfl,hm3⟩
 case round=>
  obtain⟨k,L,s,out,ao,co,hk,rfl,rfl,HL,hs,hout,HX,hmr⟩:=hrel;clear hm3;have hL:=HL.o.len;by_cases hlt:k<b.length
  .obtain⟨A,rfl,hA0⟩:=HC.o k hlt;have hA:wr.cell? (A.add k)=some (.int .u8 (gi b k)):=(hmr.below.cell (iK hA0)).trans hA0;have hx:=HX.o;rw[ZN b k hlt]at hx;have hbk:=HBB.o.gi k hlt;have CP:Hid (∀w,ak 232 #[.agg (B L),.int .u8 (gi b k)] w (RB w (.tuple #[.agg (B (el L (gi b k))),.int .i64 (pos L (gi b k))]))):=aa (λw=>put_any hL HL.o.bytes hbk);have hp:=ID HL.o hbk.1 hbk.2;have HP:Hid (Vl (el L (gi b k))):=HL.o.el _;clear hA0 HX hbk;generalize gi b k=c at*;generalize pos L c=p at*;generalize el L c=M at*;have hM:=HP.o.len;by_cases hp0:p=0
   .subst hp0;rw[aQ rfl]at hx;have HX:=aa hx;have hq:IntKind.i64.wrap ((s:Int)+1)=((s+1:Nat):Int):=by rw[aZ _ FP];omega
    clear hx hp
    go_wp2_with(first
    |refine A8 rfl (Am rfl HE5.o rfl rfl rfl hlt) ?_
    |refine A8 rfl (AU rfl rfl FV hA) ?_
    |refine AO rfl rfl rfl (hmr.row 1 rfl) (F6 _ hL) (yY hL) (qD hL hL) ?_
    |(go_at_call 232;have _t:=hmr;refine(CP.o _).mono ?_;rintro e w4⟨rfl,hb4⟩;have hm4:=hmr.call hb4;clear hmr)
    |refine Cy 1 hm4 rfl rfl rfl rfl rfl (F6 _ hM) (qD hL hM) Ut (DD hL hM) ?_;intro w5 hm5;simp only[List.set]at hm5;clear hm4
    |refine A8 rfl (Aa rfl rfl (hm5.row 1 rfl) DR (l4 hM)) ?_
    |refine BL (v:=.int .i64 ((s+1:Nat):Int)) 1 hm5 rfl rfl rfl rfl rfl DR (Br hM) rfl rfl (FA hM) ?_;intro w6 hm6;simp only[List.set]at hm6;clear hm5)
    go_roundw
    case rel=>exact⟨k+1,M,s+1,out,ao,co,FP,by go_num,rfl,HP,FP,FP,HX,hm6⟩
    case measure=>simp[intOf];omega
   .rw[aP hp0]at hx;have HX:=aa hx;have d1:(p==0)=false:=by simpa using hp0
    have d2:decide (p=0)=false:=aU hp0;have hq:IntKind.i64.wrap (p+1)=p+1:=av
    have CD:Hid (∀w,ak 233 #[.int .i64 (s:Int)] w (oS w (dg s) 0)):=aa (λw=>by
     have h:=Kj s w;rw[qq,qs,aQ ⟨FP,FP⟩,aQ ⟨FP,FP⟩,gB]at h
     exact h)
    have hd:=nc 31 s FP;clear hx hp;generalize dg s=D at*
    go_wp2_with(first
    |refine A8 rfl (Am rfl HE5.o rfl rfl rfl hlt) ?_
    |refine A8 rfl (AU rfl rfl FV hA) ?_
    |refine AO rfl rfl rfl (hmr.row 1 rfl) (F6 _ hL) (yY hL) (qD hL hL) ?_
    |(go_at_call 232;have _t:=hmr;refine(CP.o _).mono ?_;rintro e w4⟨rfl,hb4⟩;have hm4:=hmr.call hb4;clear hmr)
    |refine Cy 1 hm4 rfl rfl rfl rfl rfl (F6 _ hM) (qD hL hM) Ut (DD hL hM) ?_;intro w5 hm5;simp only[List.set]at hm5;clear hm4
    |refine A8 rfl (Aa rfl rfl (hm5.row 1 rfl) DR (l4 hM)) ?_
    |(go_at_call 233;have _t:=hm5;refine(CD.o _).mono ?_;rintro e w6⟨⟨r6,rfl,ho6⟩,hb6⟩;obtain⟨a6,c6,rfl⟩:=pC ho6;have hm6:=hm5.fG hb6 (by rw[Ai];exact ho6);clear hm5 ho6)
    |refine QC 1 hm6 rfl rfl HE.o rfl rfl rfl (Src.Yo (hm6.get 0 rfl)) (Ic _ _) JB JB ?_;intro ad7 c7 w7 hm7;simp only[List.set]at hm7;rw[<-P7]at hm7;clear hm6
    |refine QB (v:=.int .i64 (p+1)) hm7 rfl rfl HE.o rfl rfl ?_;intro w8 g8 hm8;clear hm7
    |refine QC 1 hm8 rfl rfl HE.o rfl rfl rfl (Src.one (hm8.row 0 rfl)) (Yl rfl) (by simp only[Ai,aV,bD,bW];omega) (by simp only[Ai,aV,bD,bW];omega) ?_;intro ad9 c9 w9 hm9;simp only[List.set]at hm9;clear hm8
    |refine BL (v:=.int .i64 0) 2 hm9 rfl rfl rfl rfl rfl DR (Br hM) rfl rfl (FA hM) ?_;intro w10 hm10;simp only[List.set]at hm10;clear hm9)
    go_roundw
    case rel=>
     have e:vs .i64 (out++D)++[Value.int .i64 (p+1)]=vs .i64 (out++D++[p+1]):=by simp[vs]
     have e3:(vs .i64 (out++D)).length+[Value.int .i64 (p+1)].length=(out++D++[p+1]).length:=by simp[Ai];omega
     rw[e,e3]at hm10;refine⟨k+1,M,0,out++D++[p+1],ad9,c9,FP,by go_num,?_,HP,FP,by simp only[aV,bD,bW];omega,HX,hm10.dropRow.J9⟩;rw[<-e3];rfl
    case measure=>simp[intOf];omega
  .obtain rfl:k=b.length:=FP
   have HX2:Hid (cG b l r []=(L,s,out)):=by show _=_;rw[HX.o,qC];rfl
   clear HX
   go_wp2_with(first
   |refine Ag rfl rfl rfl (hmr.row 1 rfl) (gN hL) ?_
   |refine AY 0 hmr rfl rfl rfl rfl rfl (gN hL) (Bi hL DK) xv ?_;intro w4 hm4;simp only[List.set]at hm4;clear hmr)
   refine aD (Ae rfl rfl (hm4.row 0 rfl) (gN hL)) rfl ?_;rw[HX2.o];have hg:=hm4.get 0 rfl;dsimp only at hg;exact⟨⟨_,rfl,A5 hg⟩,hm4.below⟩
end
def eD(b:ac):ac:=(cG b new 0 []).2.2++(dg (cG b new 0 []).2.1++[257])
def yb:∀(b l:ac)(r:Nat)(out:ac),Vl l->Vl (cG b l r out).1
|[],_,_,_,h=>h
|c::b,l,r,out,h=>by
  rw[cG];split
  .exact yb b _ _ _ (h.el c)
  .exact yb b _ _ _ (h.el c)
def th:∀(b l:ac)(r:Nat)(out:ac),(cG b l r out).2.1<=r+b.length
|[],_,_,_=>by rw[cG];simp
|c::b,l,r,out=>by
  rw[cG,bD];split
  .have:=th b (el l c) (r+1) out;omega
  .have:=th b (el l c) 0 (out++dg r++[pos l c+1]);omega
def rT:∀(b l:ac)(r:Nat)(out:ac),r+b.length<2^31->(cG b l r out).2.2.length<=out.length+32*b.length
|[],_,_,_,_=>by rw[cG];simp
|c::b,l,r,out,h=>by
  rw[bD]at h;rw[cG,bD];split
  .have:=rT b (el l c) (r+1) out FP;omega
  .have h2:=rT b (el l c) 0 (out++dg r++[pos l c+1]) FP;have h3:=nc 31 r FP;simp only[aV,bD,bW]at h2;omega
def Ahf{l:ac}{r:Nat}{w:FC}(hl:l.length=256)(hb:Bytes l)(hok:eQ l r=true)(hr:r<2^31):ak 193 #[.agg (EV l r)] w (oS w (dg r++[257]) 0):=by
 have CV:Hid (∀w,ak 231 #[.agg (EV l r)] w (RB w (.bool true))):=aa (λw=>by rw[<-hok];exact Mj r w hl hb)
 have CD:Hid (∀w,ak 233 #[.int .i64 (r:Int)] w (oS w (dg r) 0)):=aa (λw=>by
  have h:=Kj r w;rw[qq,qs,aQ ⟨FP,FP⟩,aQ ⟨FP,FP⟩,gB]at h
  exact h)
 have hd:=nc 31 r hr;obtain⟨i3,hE⟩:=nR;have HE:=aa hE;clear hok hE;generalize dg r=D at*;go_enter func193,ntmps193;have hm:=Own.nil w
 go_wp2_with(first
 |refine Ar hm rfl rfl rfl ?_;intro w1 g hm1;clear hm
 |refine Ag rfl rfl rfl (hm1.row 0 rfl) (gN hl) ?_
 |(go_at_call 231;have _t:=hm1;refine(CV.o _).mono ?_;rintro e w3⟨rfl,hb3⟩;have hm3:=hm1.call hb3;clear hm1)
 |refine A8 rfl (Aa rfl rfl (hm3.row 0 rfl) DR (l4 hl)) ?_
 |(go_at_call 233;have _t:=hm3;refine(CD.o _).mono ?_;rintro e w4⟨⟨r4,rfl,ho4⟩,hb4⟩;obtain⟨a4,c4,rfl⟩:=pC ho4;have hm4:=hm3.fG hb4 (by rw[Ai];exact ho4);clear hm3 ho4)
 |refine QB (v:=.int .i64 257) hm4 rfl rfl HE.o rfl rfl ?_;intro w8 g8 hm8;clear hm4
 |refine QC 0 hm8 rfl rfl HE.o rfl rfl rfl (Src.one (hm8.row 0 rfl)) (Yl rfl) (by simp only[Ai,bD,bW];omega) (by simp only[Ai,bD,bW];omega) ?_;intro ad9 c9 w9 hm9;simp only[List.set]at hm9;clear hm8)
 go_ret2
 have e:vs .i64 D++[Value.int .i64 257]=vs .i64 (D++[257]):=by simp[vs]
 have e3:(vs .i64 D).length+[Value.int .i64 257].length=(D++[257]).length:=by simp[Ai]
 rw[e,e3]at hm9;have hg:=hm9.get 0 rfl;dsimp only at hg;refine⟨⟨_,rfl,?_⟩,hm9.below⟩;have e4:(vs .i64 D).length+1=(D++[257]).length:=by simp[Ai]
 have h:=A5 hg;rw[<-e4]at h⊢;exact h
def Aga{b:ac}{v:NY}{w:FC}(hbb:Bytes b)(hv:In .u8 w v b)(hlen:b.length<=1000):ak 154 #[v] w (E' w (eD b)):=by
 have HVI:=aa hv;have HVL:=yb b new 0 [] nl;have hL:=HVL.len;have hlo:=rT b new 0 [] FP;have hsr:=th b new 0 [];have hlr:=nc 31 (cG b new 0 []).2.1 FP;have CS:Hid (∀wz,Below w.heap.size w wz->ak 191 #[.agg (EV new 0),v] wz (Pl wz (cG b new 0 []).1 (cG b new 0 []).2.1 (cG b new 0 []).2.2 0)):=aa (λwz hb=>Ys 0 nl hbb (HVI.o.below hb) hlen FP);have CE:Hid (∀w,ak 193 #[.agg (EV (cG b new 0 []).1 (cG b new 0 []).2.1)] w (oS w (dg (cG b new 0 []).2.1++[257]) 0)):=aa (λw=>Ahf hL HVL.bytes (by rw[eQ,(v7 hL HVL.bytes).2 HVL,aW ⟨FP,FP⟩];rfl) FP);obtain⟨ad,cp,rfl,_⟩:=hv;obtain⟨i3,hE⟩:=nR;have HE:=aa hE;have HA:Hid (eD b=(cG b new 0 []).2.2++(dg (cG b new 0 []).2.1++[257])):=rfl;clear hE HVL hsr;generalize (cG b new 0 []).1=L at*
 generalize (cG b new 0 []).2.2=O at*;generalize (cG b new 0 []).2.1=s at*;have hol:O.length<=32000:=by rw[bW]at hlo;omega
 clear hlo;have hld:(dg s++[257]).length<=32:=by rw[aV];simp only[bD,bW];omega
 generalize dg s++[257]=D at*;go_enter func154,ntmps154;have hm:=Own.nil w
 go_wp2_with(first
 |(go_at_call 192;have _t:=hm;refine(pE).mono ?_;rintro e w1⟨rfl,hb1⟩;have hm1:=hm.call hb1;clear hm)
 |(go_at_call 191;have _t:=hm1;refine(CS.o _ hm1.below).mono ?_;rintro e w2⟨⟨r2,rfl,ho2⟩,hb2⟩;obtain⟨a2,c2,rfl⟩:=pC ho2;have hm2:=hm1.fG hb2 (by rw[Ai];exact ho2);clear hm1 ho2)
 |refine AL hm2 rfl rfl qo ?_;intro w3 g3 hm3;clear hm2
 |refine AY 0 hm3 rfl rfl rfl rfl rfl (gN hL) (Bi hL DK) xv ?_;intro w4 hm4;simp only[List.set]at hm4;clear hm3
 |refine Ag rfl rfl rfl (hm4.row 0 rfl) (gN hL) ?_
 |(go_at_call 193;have _t:=hm4;refine(CE.o _).mono ?_;rintro e w5⟨⟨r5,rfl,ho5⟩,hb5⟩;obtain⟨a5,c5,rfl⟩:=pC ho5;have hm5:=hm4.fG hb5 (by rw[Ai];exact ho5);clear hm4 ho5)
 |refine QC 1 hm5 rfl rfl HE.o rfl rfl rfl (Src.Yo (hm5.get 0 rfl)) (Ic _ _) JB JB ?_;intro ad6 c6 w6 hm6;simp only[List.set]at hm6;clear hm5)
 go_ret;have e3:(vs .i64 O).length+(vs .i64 D).length=(O++D).length:=by simp[Ai]
 rw[<-P7,e3]at hm6;have hg:=hm6.get 1 rfl;dsimp only at hg;have h:=A5 hg;refine⟨⟨_,rfl,?_⟩,hm6.below⟩;rw[HA.o];rw[<-e3]at h⊢;exact h
section
variable{b:DS}{most:Int}{w:FC}
def UG(k:Nat):∀n,n<=k->2^(dg n).length<=n+1/\n+1<2^((dg n).length+1):=by
 induction k with
|zero=>
  intro n hn;obtain rfl:n=0:=FP
  rw[Og];simp
|succ k ih=>
  intro n hn;by_cases h0:n=0
  .subst h0;rw[Og];simp
  .rw[Xt n FP,bD];obtain⟨h1,h2⟩:=ih ((n-1)/2) FP;generalize (dg ((n-1)/2)).length=m at*;rw[ou]at h2;rw[ou,ou,ou];omega
def Tc(n d:Nat):(dg n).length=d↔2^d-1<=n/\n<=2*(2^d-1):=by
 obtain⟨h1,h2⟩:=UG n n (aX _);have hp:0<2^d:=xg FP
 constructor
 .rintro rfl;rw[ou]at h2;omega
 .rintro⟨h3,h4⟩;rcases qX (dg n).length d with h|h|h
  .have:=jD (show 0<2 by omega) (show(dg n).length+1<=d by omega);omega
  .exact h
  .have:=jD (show 0<2 by omega) (show d+1<=(dg n).length by omega);rw[ou]at this;omega
def fN(b:DS):Bool:=ly b.l&&(decide (0<=b.left/\b.left<=65536/\0<=b.run/\b.run<=b.left/\0<=b.dig/\b.dig<=16/\((dg b.run.toNat).length:Int)=b.dig)&&(!b.fin||decide (b.left=0/\b.run=0/\b.dig=0)))
def dNew(most:Int):DS:=if 1<=most/\most<=65536 then⟨new,most,0,0,false⟩else im
def YS(most:Int):(dNew most).l.length=256:=by
 rw[dNew];split
 .exact FW
 .exact DK
def Q0(h0:¬most<1)(h1:¬65536<most):ak 128 #[.int .i64 most] w (RB w (.agg (V ⟨new,most,0,0,false⟩))):=by
 go_enter func128,ntmps128;have hm:=Own.nil w
 go_wp2_with(first
 |refine AL hm rfl rfl Dc ?_;intro w2 g2 hm2;clear hm
 |(go_at_call 169;have _t:=hm2;refine(new_any).mono ?_;rintro e w3⟨rfl,hb3⟩;have hm3:=hm2.call hb3;clear hm2)
 |refine A8 rfl (KW rfl rfl rfl FW) ?_
 |refine AY 0 hm3 rfl rfl rfl rfl rfl (BJ (b:=⟨new,most,0,0,false⟩) FW) (BR (b:=⟨new,most,0,0,false⟩) FW BF) ep ?_;intro w4 hm4;simp only[List.set]at hm4;clear hm3)
 refine aD (AQ rfl rfl (hm4.row 0 rfl) (BJ (b:=⟨new,most,0,0,false⟩) FW)) rfl ?_;exact⟨rfl,hm4.below⟩
def Tg(h0:most<1):ak 128 #[.int .i64 most] w (RB w (.agg (V im))):=Be
def Sw(h0:¬most<1)(h1:65536<most):ak 128 #[.int .i64 most] w (RB w (.agg (V im))):=Be
def Zx(most:Int)(w:FC):ak 128 #[.int .i64 most] w (RB w (.agg (V (dNew most)))):=by
 by_cases h0:most<1
 .rw[dNew,aP FP];exact Tg h0
 by_cases h1:65536<most
 .rw[dNew,aP FP];exact Sw h0 h1
 .rw[dNew,aQ FP];exact Q0 h0 h1
def a03(hl:b.l.length=256)(CV:Hid (∀w,ak 215 #[.agg (B b.l)] w (RB w (.bool false)))):ak 173 #[.agg (V b)] w (RB w (.bool false)):=by
 go_enter func173,ntmps173;have hm:=Own.nil w
 go_wp2_with(first
 |refine Ar hm rfl rfl rfl ?_;intro w1 g hm1;clear hm
 |refine AO rfl rfl rfl (hm1.row 0 rfl) (F6 _ hl) (Ci hl) (NG hl) ?_
 |(go_at_call 215;have _t:=hm1;refine(CV.o _).mono ?_;rintro e w2⟨rfl,hb2⟩;have hm2:=hm1.call hb2;clear hm1)
  )
 exact re
def S7(hl:b.l.length=256)(CV:Hid (∀w,ak 215 #[.agg (B b.l)] w (RB w (.bool true))))(h1:b.left<0):ak 173 #[.agg (V b)] w (RB w (.bool false)):=by
 have q1:decide (b.left<0)=true:=aW h1;exact OL
def Tt(hl:b.l.length=256)(CV:Hid (∀w,ak 215 #[.agg (B b.l)] w (RB w (.bool true))))(h1:¬b.left<0)(h2:65536<b.left):ak 173 #[.agg (V b)] w (RB w (.bool false)):=by
 have q1:decide (b.left<0)=false:=aU h1;have q2:decide (65536<b.left)=true:=aW h2;exact OL
def U'(hl:b.l.length=256)(CV:Hid (∀w,ak 215 #[.agg (B b.l)] w (RB w (.bool true))))(h1:¬b.left<0)(h2:¬65536<b.left)(h3:b.run<0):ak 173 #[.agg (V b)] w (RB w (.bool false)):=by
 have q1:decide (b.left<0)=false:=aU h1;have q2:decide (65536<b.left)=false:=aU h2;have q3:decide (b.run<0)=true:=aW h3;exact Ck
def a1G(hl:b.l.length=256)(CV:Hid (∀w,ak 215 #[.agg (B b.l)] w (RB w (.bool true))))(h1:¬b.left<0)(h2:¬65536<b.left)(h3:¬b.run<0)(h4:b.left<b.run):ak 173 #[.agg (V b)] w (RB w (.bool false)):=by
 have q1:decide (b.left<0)=false:=aU h1;have q2:decide (65536<b.left)=false:=aU h2;have q3:decide (b.run<0)=false:=aU h3;have q4:decide (b.left<b.run)=true:=aW h4;exact Ck
def Xn(hl:b.l.length=256)(CV:Hid (∀w,ak 215 #[.agg (B b.l)] w (RB w (.bool true))))(h1:¬b.left<0)(h2:¬65536<b.left)(h3:¬b.run<0)(h4:¬b.left<b.run)(h5:b.dig<0):ak 173 #[.agg (V b)] w (RB w (.bool false)):=by
 have q1:decide (b.left<0)=false:=aU h1;have q2:decide (65536<b.left)=false:=aU h2;have q3:decide (b.run<0)=false:=aU h3;have q4:decide (b.left<b.run)=false:=aU h4;have q5:decide (b.dig<0)=true:=aW h5;exact sP
def Ty(hl:b.l.length=256)(CV:Hid (∀w,ak 215 #[.agg (B b.l)] w (RB w (.bool true))))(h1:¬b.left<0)(h2:¬65536<b.left)(h3:¬b.run<0)(h4:¬b.left<b.run)(h5:¬b.dig<0)(h6:16<b.dig):ak 173 #[.agg (V b)] w (RB w (.bool false)):=by
 have q1:decide (b.left<0)=false:=aU h1;have q2:decide (65536<b.left)=false:=aU h2;have q3:decide (b.run<0)=false:=aU h3;have q4:decide (b.left<b.run)=false:=aU h4;have q5:decide (b.dig<0)=false:=aU h5;have q6:decide (16<b.dig)=true:=aW h6;exact sP
def A0q(hl:b.l.length=256)(CV:Hid (∀w,ak 215 #[.agg (B b.l)] w (RB w (.bool true))))(h1:¬b.left<0)(h2:¬65536<b.left)(h3:¬b.run<0)(h4:¬b.left<b.run)(h5:¬b.dig<0)(h6:¬16<b.dig)(h7:b.run<2^b.dig.toNat-1):ak 173 #[.agg (V b)] w (RB w (.bool false)):=by
 obtain⟨k,hk⟩:=dB (show 0<=b.dig by omega);have hp:=KF k FP;have w1:wrap64 (2^k:Int)=2^k:=fl FP;have w2:wrap64 ((2:Int)^k-1)=2^k-1:=fl FP;have w3:wrap64 (2*((2:Int)^k-1))=2*(2^k-1):=fl FP;have i1:IntKind.i64.wrap ((2:Int)^k-1)=2^k-1:=av;have i2:IntKind.i64.wrap (2*((2:Int)^k-1))=2*(2^k-1):=av;have q1:decide (b.left<0)=false:=aU h1;have q2:decide (65536<b.left)=false:=aU h2;have q3:decide (b.run<0)=false:=aU h3;have q4:decide (b.left<b.run)=false:=aU h4;have q5:decide (b.dig<0)=false:=aU h5;have q6:decide (16<b.dig)=false:=aU h6;rw[hk,gB]at h7;have q7:decide (b.run<(2:Int)^k-1)=true:=aW h7;have HK:=aa hk
 clear hp;exact sP
def T5(hl:b.l.length=256)(CV:Hid (∀w,ak 215 #[.agg (B b.l)] w (RB w (.bool true))))(h1:¬b.left<0)(h2:¬65536<b.left)(h3:¬b.run<0)(h4:¬b.left<b.run)(h5:¬b.dig<0)(h6:¬16<b.dig)(h7:¬b.run<2^b.dig.toNat-1)(h8:2*(2^b.dig.toNat-1)<b.run):ak 173 #[.agg (V b)] w (RB w (.bool false)):=by
 obtain⟨k,hk⟩:=dB (show 0<=b.dig by omega);have hp:=KF k FP;have w1:wrap64 (2^k:Int)=2^k:=fl FP;have w2:wrap64 ((2:Int)^k-1)=2^k-1:=fl FP;have w3:wrap64 (2*((2:Int)^k-1))=2*(2^k-1):=fl FP;have i1:IntKind.i64.wrap ((2:Int)^k-1)=2^k-1:=av;have i2:IntKind.i64.wrap (2*((2:Int)^k-1))=2*(2^k-1):=av;have q1:decide (b.left<0)=false:=aU h1;have q2:decide (65536<b.left)=false:=aU h2;have q3:decide (b.run<0)=false:=aU h3;have q4:decide (b.left<b.run)=false:=aU h4;have q5:decide (b.dig<0)=false:=aU h5;have q6:decide (16<b.dig)=false:=aU h6;rw[hk,gB]at h7 h8;have q7:decide (b.run<(2:Int)^k-1)=false:=aU h7
 have q8:decide (2*((2:Int)^k-1)<b.run)=true:=aW h8;clear hp;exact sP
end
section
variable{r:Bool}{b:DS}{w:FC}
def A0o(hl:b.l.length=256)(CV:Hid (∀w,ak 215 #[.agg (B b.l)] w (RB w (.bool true))))(h1:¬b.left<0)(h2:¬65536<b.left)(h3:¬b.run<0)(h4:¬b.left<b.run)(h5:¬b.dig<0)(h6:¬16<b.dig)(h7:¬b.run<2^b.dig.toNat-1)(h8:¬2*(2^b.dig.toNat-1)<b.run)(h9:b.fin=false):ak 173 #[.agg (V b)] w (RB w (.bool true)):=by
 obtain⟨k,hk⟩:=dB (show 0<=b.dig by omega);have hp:=KF k FP;have w1:wrap64 (2^k:Int)=2^k:=fl FP;have w2:wrap64 ((2:Int)^k-1)=2^k-1:=fl FP;have w3:wrap64 (2*((2:Int)^k-1))=2*(2^k-1):=fl FP;have i1:IntKind.i64.wrap ((2:Int)^k-1)=2^k-1:=av;have i2:IntKind.i64.wrap (2*((2:Int)^k-1))=2*(2^k-1):=av;have q1:decide (b.left<0)=false:=aU h1;have q2:decide (65536<b.left)=false:=aU h2;have q3:decide (b.run<0)=false:=aU h3;have q4:decide (b.left<b.run)=false:=aU h4;have q5:decide (b.dig<0)=false:=aU h5;have q6:decide (16<b.dig)=false:=aU h6;rw[hk,gB]at h7 h8;have q7:decide (b.run<(2:Int)^k-1)=false:=aU h7
 have q8:decide (2*((2:Int)^k-1)<b.run)=false:=aU h8;clear hp;go_enter func173,ntmps173;have hm:=Own.nil w
 go_wp2_with(first
 |refine Ar hm rfl rfl rfl ?_;intro w1 g hm1;clear hm
 |refine AO rfl rfl rfl (hm1.row 0 rfl) (F6 _ hl) (Ci hl) (NG hl) ?_
 |(go_at_call 215;have _t:=hm1;refine(CV.o _).mono ?_;rintro e w2⟨rfl,hb2⟩;have hm2:=hm1.call hb2;clear hm1)
 |refine A8 rfl (Aa (off:=256) rfl rfl (hm2.row 0 rfl) DR (H8 hl)) ?_
 |refine A8 rfl (Aa (off:=257) rfl rfl (hm2.row 0 rfl) DR (H7 hl)) ?_
 |refine A8 rfl (Aa (off:=258) rfl rfl (hm2.row 0 rfl) DR (MH hl)) ?_
 |refine A8 rfl (Aa (off:=259) rfl rfl (hm2.row 0 rfl) n9 (Qm hl)) ?_
 |refine Ag rfl rfl rfl (hm2.row 0 rfl) (BJ hl) ?_
 |refine AO rfl rfl rfl (hm2.row 0 rfl) (F6 _ hl) (Ci hl) (NG hl) ?_
 |refine A8 rfl (Iu rfl rfl rfl hl) ?_)
 exact re
def Sn(hl:b.l.length=256)(CV:Hid (∀w,ak 215 #[.agg (B b.l)] w (RB w (.bool true))))(h1:¬b.left<0)(h2:¬65536<b.left)(h3:¬b.run<0)(h4:¬b.left<b.run)(h5:¬b.dig<0)(h6:¬16<b.dig)(h7:¬b.run<2^b.dig.toNat-1)(h8:¬2*(2^b.dig.toNat-1)<b.run)(h9:b.fin=true)(DE:Hid (wQ b ⟨b.l,0,0,0,true⟩=r)):ak 173 #[.agg (V b)] w (RB w (.bool r)):=by
 obtain⟨k,hk⟩:=dB (show 0<=b.dig by omega);have hp:=KF k FP;have w1:wrap64 (2^k:Int)=2^k:=fl FP;have w2:wrap64 ((2:Int)^k-1)=2^k-1:=fl FP;have w3:wrap64 (2*((2:Int)^k-1))=2*(2^k-1):=fl FP;have i1:IntKind.i64.wrap ((2:Int)^k-1)=2^k-1:=av;have i2:IntKind.i64.wrap (2*((2:Int)^k-1))=2*(2^k-1):=av;have q1:decide (b.left<0)=false:=aU h1;have q2:decide (65536<b.left)=false:=aU h2;have q3:decide (b.run<0)=false:=aU h3;have q4:decide (b.left<b.run)=false:=aU h4;have q5:decide (b.dig<0)=false:=aU h5;have q6:decide (16<b.dig)=false:=aU h6;rw[hk,gB]at h7 h8;have q7:decide (b.run<(2:Int)^k-1)=false:=aU h7
 have q8:decide (2*((2:Int)^k-1)<b.run)=false:=aU h8;clear hp;go_enter func173,ntmps173;have hm:=Own.nil w
 go_wp2_with(first
 |refine Ar hm rfl rfl rfl ?_;intro w1 g hm1;clear hm
 |refine AO rfl rfl rfl (hm1.row 0 rfl) (F6 _ hl) (Ci hl) (NG hl) ?_
 |(go_at_call 215;have _t:=hm1;refine(CV.o _).mono ?_;rintro e w2⟨rfl,hb2⟩;have hm2:=hm1.call hb2;clear hm1)
 |refine A8 rfl (Aa (off:=256) rfl rfl (hm2.row 0 rfl) DR (H8 hl)) ?_
 |refine A8 rfl (Aa (off:=257) rfl rfl (hm2.row 0 rfl) DR (H7 hl)) ?_
 |refine A8 rfl (Aa (off:=258) rfl rfl (hm2.row 0 rfl) DR (MH hl)) ?_
 |refine A8 rfl (Aa (off:=259) rfl rfl (hm2.row 0 rfl) n9 (Qm hl)) ?_
 |refine Ag rfl rfl rfl (hm2.row 0 rfl) (BJ hl) ?_
 |refine AO rfl rfl rfl (hm2.row 0 rfl) (F6 _ hl) (Ci hl) (NG hl) ?_
 |refine A8 rfl (Iu rfl rfl rfl hl) ?_
 |refine A8 rfl (dY (c:=⟨b.l,0,0,0,true⟩) rfl rfl rfl hl hl DE.o) ?_)
 exact re
def eH(w:FC)(hl:b.l.length=256)(hb:Bytes b.l):ak 173 #[.agg (V b)] w (RB w (.bool (fN b))):=by
 cases hv:ly b.l with
|false=>
  have e:fN b=false:=by rw[fN,hv];rfl
  rw[e];exact a03 hl (aa (λw=>by rw[<-hv];exact P8 b.l hl hb))
|true=>
  have CV:Hid (∀w,ak 215 #[.agg (B b.l)] w (RB w (.bool true))):=aa (λw=>by rw[<-hv];exact P8 b.l hl hb);by_cases h:0<=b.left/\b.left<=65536/\0<=b.run/\b.run<=b.left/\0<=b.dig/\b.dig<=16/\((dg b.run.toNat).length:Int)=b.dig
  .obtain⟨a1,a2,a3,a4,a5,a6,a7⟩:=h;have hd:decide (0<=b.left/\b.left<=65536/\0<=b.run/\b.run<=b.left/\0<=b.dig/\b.dig<=16/\((dg b.run.toNat).length:Int)=b.dig)=true:=aW ⟨a1,a2,a3,a4,a5,a6,a7⟩;have hq:=(Tc b.run.toNat b.dig.toNat).1 FP;have hp:0<2^b.dig.toNat:=xg FP;have ec:((2^b.dig.toNat:Nat):Int)=(2:Int)^b.dig.toNat:=by push_cast;rfl
   have h7:¬b.run<2^b.dig.toNat-1:=by rw[<-ec];omega
   have h8:¬2*(2^b.dig.toNat-1)<b.run:=by rw[<-ec];omega
   cases hf:b.fin with
  |false=>
    have e:fN b=true:=by rw[fN,hv,hd,hf];rfl
    rw[e];exact A0o hl CV FP FP FP FP FP FP h7 h8 hf
  |true=>
    have e:fN b=wQ b ⟨b.l,0,0,0,true⟩:=by
     rw[fN,hv,hd,hf,wQ,hf];simp only[Ef,y8,uq,Bool.not_true,yT];by_cases z1:b.left=0<;>by_cases z2:b.run=0<;>by_cases z3:b.dig=0<;>simp[z1,z2,z3]
    rw[e];exact Sn hl CV FP FP FP FP FP FP h7 h8 hf rfl
  .have e:fN b=false:=by rw[fN,hv,aU h];rfl
   rw[e];by_cases h1:b.left<0
   .exact S7 hl CV h1
   by_cases h2:65536<b.left
   .exact Tt hl CV h1 h2
   by_cases h3:b.run<0
   .exact U' hl CV h1 h2 h3
   by_cases h4:b.left<b.run
   .exact a1G hl CV h1 h2 h3 h4
   by_cases h5:b.dig<0
   .exact Xn hl CV h1 h2 h3 h4 h5
   by_cases h6:16<b.dig
   .exact Ty hl CV h1 h2 h3 h4 h5 h6
   by_cases h7:b.run<2^b.dig.toNat-1
   .exact A0q hl CV h1 h2 h3 h4 h5 h6 h7
   by_cases h8:2*(2^b.dig.toNat-1)<b.run
   .exact T5 hl CV h1 h2 h3 h4 h5 h6 h7 h8
   refine absurd ⟨FP,FP,FP,FP,FP,FP,?_⟩ h;have hp:0<2^b.dig.toNat:=xg FP;have ec:((2^b.dig.toNat:Nat):Int)=(2:Int)^b.dig.toNat:=by push_cast;rfl
   have:=(Tc b.run.toNat b.dig.toNat).2 (by rw[<-ec]at h7 h8;omega);omega
end
section
variable{a:OA}{ad:Addr}{ops:bl}{cs:ai}{b:DS}{Q:Exit->aJ}{l:ac}{rest:bt}{ss:O1}{news xs:ar}{base base' c g m n:Nat}{o:Oz}{x y:O7}{P:O8}{rs:ae}{e t ty:O4}{i:Oy}{z:NY}{w w' w0:FC}{S:OE}
def Ux(hm:Own w0 w rs ss)(hgd:MZ o ops a){bytes:Nat}(ho:o.op=.call {callee:=.builtin .append,args:=#[x,y],argTypes:=#[t,t]})(he:Gv P t e i z bytes)
  (hx:a.eval x=.slice (some ad) n n)(hn:xs.length=n)(hold:∀j u,xs[j]?=some u->w.cell? (ad.add j)=some u){bd:Addr}(hy:a.eval y=.slice (some bd) m c)(hm':news.length=m)(hnew:∀j u,news[j]?=some u->w.cell? (bd.add j)=some u)
  (h0:0<m)(hb:(n+m)*bytes<=140737488355328)(hb0:n+m<=140737488355328)
  (h:∀ad c w',Own w0 w' rs ((.slice ad (n+m) c,e,xs++news)::ss)->wpList P ops Q rest (a.put o.dst (.slice ad (n+m) c)) w')(hq:e<Ey:=by exact N8):wpList P ops Q (o::rest) a w:=by
 have hr:=run_append_grow (P:=P) w t o.type e i z he.under he.info he.zero ad n n xs (by rw[he.size,hn,kQ]) hold bd m c news (by rw[he.size,hm',kQ]) hnew FP FP (by rw[he.bytes];exact tY FP hb);obtain⟨g1,g2⟩:=tu (w:=w) (base:=w.heap.size) (e:=e) (xs:=xs) (news:=news) (z:=z) (n:=n) (k:=m) (old:=n) (aX _) hn hm' KJ none;rw[he.cell]at hr
 have hown:Own w0 (w.drew.alloc (.cells (xs.toArray++news.toArray++Builtin.zeroCells #[z] (grownCap w (n+m) n e-(n+m))) e)) rs ((.slice (some ⟨w.heap.size,0,none⟩) (n+m) (grownCap w (n+m) n e),e,xs++news)::ss):=
  hm.fG ((Below.refl _ w).grown g2 (aX _) (λk hk=>by cases hk)) (by rw[aV,hn,hm'];exact g1) hq
 refine A8 hgd ?_ (h _ _ _ hown);exact tp
def DS.rep(b:DS):ac:=List.replicate b.run.toNat (gi b.l 0)
def run_any(hl:b.l.length=256)(h0:0<=b.run)(h1:b.run<=65536):ak 217 #[.agg (V b)] w (FI w b.rep):=by
 obtain⟨k,hk⟩:=dB h0
 have CR:Hid (∀(g:Nat)(W:FC),AA W g (V b)->ak 251 #[.slice (some ⟨g,0,none⟩) 1 256,.int .i64 b.run] W (FI W b.rep)):=aa (λg W hg=>by
  have h:=Rz (gi b.l 0) k W FP ⟨g,0,none⟩ 256 rfl (by rw[hg.cell,Yn hl 0 FP]);rw[hk,DS.rep,hk,gB]
  exact h)
 clear h0 h1 hk;go_enter func217,ntmps217;have hm:=Own.nil w
 go_wp2_with(first
 |refine Ar hm rfl rfl rfl ?_;intro w1 g hm1;clear hm)
 refine D7 [(0,true),(1,true),(2,true),(3,true),(4,false),(5,true)] (λW=>Below w.heap.size w W/\AA W g (V b)) rfl FZ rfl FZ (λ_ _ d _ _ h=>by cases d<;>exact h) ⟨(hm1.drawn (w1.drawn+1)).below,(hm1.drawn (w1.drawn+1)).row 0 rfl⟩ ?_;have hn:=hm1.drawn (w1.drawn+1);generalize ({w1 with drawn:=w1.drawn+1}:FC)=wn at hn⊢;refine Ah rfl rfl (λW hW=>by go_simp;rfl) ?_;simp only[Act.put,s3];refine Ah rfl rfl (λW hW=>Iq rfl underlying145 ml rfl 0 1 (.inl ⟨rfl,rfl⟩) (.inr ⟨1,rfl,rfl⟩) FP FP FP rfl rfl rfl) ?_;simp only[Act.put,s3];refine Ah rfl rfl (λW hW=>by go_simp;rfl) ?_;simp only[Act.put,s3];refine Ah rfl rfl (λW hW=>Aa (off:=257) rfl rfl hW.2 DR (H7 hl)) ?_;simp only[Act.put,s3];refine iL rfl rfl (λK hK=>?_);go_simp;refine(CR.o _ _ (hn.row 0 rfl)).mono ?_;rintro e v1⟨⟨gT,cells,rfl,hrT,hgT,htT⟩,hb1⟩
 have k1:=hn.QW hb1 hrT hgT;clear hn;refine hK _ _ ⟨_,λ_ h=>h,⟨k1.below,k1.row 1 rfl⟩,?_⟩;clear hK K;refine Ah rfl rfl (λW hW=>by go_simp;rfl) ?_;simp only[Act.put,s3];refine IY ?_;go_simp;go_wp2;go_ret;exact⟨⟨gT,cells,rfl,k1.row 0 rfl,k1.mem.own _ (eP ..),htT⟩,k1.below⟩
def G9(b:DS)(s:Int):DS×ac×Bool:=
 if s=0\/s=1 then({b with run:=OJ b.run b.dig s,dig:=b.dig+1},[],decide (OJ b.run b.dig s<=b.left))
 else if s=257 then(⟨b.l,0,0,0,true⟩,b.rep,decide (b.run=b.left))
 else if b.run=b.left then(b,[],false)
 else(⟨Ie b.l (s-1),b.left-(b.run+1),0,0,false⟩,b.rep++[takeC b.l (s-1)],true)
def IG(base:Nat)(w:FC)(v:NY)(xs:ar):Prop:=(v=.slice none 0 0/\xs=[])\/∃g c cells,v=.slice (some ⟨g,0,none⟩) xs.length c/\base<=g/\AA w g cells/\cells.toList.take xs.length=xs
def Ya{cells:ai}(h:AA w g cells)(ht:cells.toList.take xs.length=xs):∀j u,xs[j]?=some u->w.cell? ((⟨g,0,none⟩:Addr).add j)=some u:=by
 intro j u hj;refine Iz h j ?_;have hlt:j<xs.length:=(gI.1 hj).1;rw[<-cE,<-nH hlt,ht,hj]
def IG.Yo{v:NY}(h:w.ownsRow base e 1 v xs.length xs):IG base w v xs:=by
 rcases h.2 with⟨rfl,h0⟩|⟨g,cap,cur,rfl,hg,h1,_,_,_,h2⟩
 .exact .inl ⟨rfl,l9.1 h0⟩
 .exact .inr ⟨g,cap,cur,rfl,hg,⟨e,h1⟩,by rwa[kQ]at h2⟩
def IG.mono{v:NY}(h:IG base w v xs)(hb:base'<=base):IG base' w v xs:=by
 rcases h with h|⟨g,c,cells,h0,h1,hc⟩
 .exact .inl h
 .exact .inr ⟨g,c,cells,h0,jy hb h1,hc⟩
def IG.setRow{base:Nat}{w:FC}{v:NY}{xs:ar}(h:IG base w v xs){g:Nat}(hg:g<base)(cs:ai):IG base (w.setRow g cs) v xs:=by
 rcases h with h|⟨k,c,cells,h0,h1,h2,h3⟩
 .exact .inl h
 .exact .inr ⟨k,c,cells,h0,h1,h2.of_block (setRow_other w g _ cs FP),h3⟩
def IG.shape{v:NY}(h:IG base w v (vs .u8 l)):∃a c,v=.slice a l.length c:=by
 rcases h with⟨rfl,h0⟩|⟨g,c,cells,rfl,_⟩
 .have:=congrArg List.length h0;rw[Ai]at this;exact⟨none,0,by rw[this];rfl⟩
 .exact⟨_,c,by rw[Ai]⟩
def gE(X:ae)(v:NY)(xs:ar):Prop:=(v=.slice none 0 0/\xs=[]/\X=[])\/∃g c cells,X=[(g,cells)]/\v=.slice (some ⟨g,0,none⟩) xs.length c/\cells.toList.take xs.length=xs
def Own.Ox{v:NY}(h:Own w0 w rs ss)(hb:Below w.heap.size w w')(hs:IG w.heap.size w' v xs):∃X,gE X v xs/\Own w0 w' (X++rs) ss:=by
 rcases hs with⟨h1,h2⟩|⟨g,c,cells,h1,hg,h2,h3⟩
 .exact⟨[],.inl ⟨h1,h2,rfl⟩,h.call hb⟩
 .exact⟨[(g,cells)],.inr ⟨g,c,cells,rfl,h1,h3⟩,h.QW hb h2 hg⟩
def gE.src{X:ae}{v:NY}(h:gE X v xs)(hm:Own w0 w (X++rs) ss):Src w v xs:=by
 rcases h with⟨h1,h2,_⟩|⟨g,c,cells,rfl,h1,h3⟩
 .exact .inl ⟨h1,h2⟩
 .exact .inr ⟨_,c,h1,Ya (hm.row 0 rfl) h3⟩
def JY(w:FC)(o:DS)(t:ac)(f:Bool)(x:Ending)(w':FC):Prop:=(∃v,x=.returned (.tuple #[.agg (V o),v,.bool f])/\IG w.heap.size w' v (vs .u8 t))/\Below w.heap.size w w'
def JE{i:Nat}{r:Ou}(j:Nat)(hm:Own w0 w rs ss)(ho:ops.toList[i]?=some o)(hw:MZ o ops a)(hop:o.op=.store ty x y)(hx:a.eval x=.pointer g){vs:ai}(hy:a.eval y=.agg vs)
  (hi:rs[j]?=some (g,cs))(ht:Aq P ty vs.size)(hs:vs.size=cs.size)(h1:∀v∈vs,v.oneCell'=true)
  (hS:∀w',Own w0 w' (rs.set j (g,vs)) ss->S w')(h:∀w',Own w0 w' (rs.set j (g,vs)) ss->Ej P ops Q r S (a.put o.dst undef) w'):Ej P ops Q ((i,false)::r) S a w:=
 Yk hm I8 hw hop hx hy hi ht hs h1 hS h
def A1O(hl:b.l.length=256)(hd0:0<=b.dig)(hd1:b.dig<=100):ak 174 #[.agg (V b),.int .i64 0] w (JY w {b with run:=OJ b.run b.dig 0,dig:=b.dig+1} [] (decide (OJ b.run b.dig 0<=b.left))):=by
 have CA:Hid (∀w,ak 216 #[.int .i64 b.run,.int .i64 b.dig,.int .i64 0] w (Ed w (OJ b.run b.dig 0) (ZU b.run b.dig 0))):=λw=>add_any b.run b.dig 0;generalize OJ b.run b.dig 0=N at*;generalize ZU b.run b.dig 0=E at*;exact Gk
def VS(hl:b.l.length=256)(hd0:0<=b.dig)(hd1:b.dig<=100):ak 174 #[.agg (V b),.int .i64 1] w (JY w {b with run:=OJ b.run b.dig 1,dig:=b.dig+1} [] (decide (OJ b.run b.dig 1<=b.left))):=by
 have CA:Hid (∀w,ak 216 #[.int .i64 b.run,.int .i64 b.dig,.int .i64 1] w (Ed w (OJ b.run b.dig 1) (ZU b.run b.dig 1))):=λw=>add_any b.run b.dig 1;generalize OJ b.run b.dig 1=N at*;generalize ZU b.run b.dig 1=E at*;exact Gk
def rD(hl:b.l.length=256)(h0:0<=b.run)(h1:b.run<=65536):ak 174 #[.agg (V b),.int .i64 257] w (JY w ⟨b.l,0,0,0,true⟩ b.rep (decide (b.run=b.left))):=by
 have CR:Hid (∀w,ak 217 #[.agg (V b)] w (FI w b.rep)):=λw=>run_any hl h0 h1;have l2:(⟨b.l,0,0,0,true⟩:DS).l.length=256:=hl;have EB:Hid (∀r:Bool,(b.run==b.left)=r->decide (b.run=b.left)=r):=aa (λr h=>by rw[<-h];rfl);generalize hrep:b.rep=R at*;clear hrep h0 h1;go_enter func174,ntmps174;have hm:=Own.nil w
 go_wp2_with(first
 |refine Ar hm rfl rfl rfl ?_;intro w1 g hm1;clear hm
 |refine AL hm1 rfl rfl Dc ?_;intro w2 g2 hm2;clear hm1)
 refine D7 [(0,true),(1,true),(2,true),(3,true),(5,true),(6,true),(7,true),(8,true),(9,true),(4,false),(10,false),(11,true),(12,true)] (λW=>Below w.heap.size w W/\AA W g (V b)) rfl FZ rfl FZ (λ_ _ d _ _ h=>by cases d<;>exact h) ⟨(hm2.drawn (w2.drawn+1)).below,(hm2.drawn (w2.drawn+1)).row 1 rfl⟩ ?_;have hn:=hm2.drawn (w2.drawn+1);generalize ({w2 with drawn:=w2.drawn+1}:FC)=wn at hn⊢;refine Ah rfl rfl (λW hW=>by go_simp;rfl) ?_;simp only[Act.put,s3];refine Ah rfl rfl (λW hW=>TD rfl rfl hW.2 (F6 _ hl) (Ci hl) (NG hl)) ?_;simp only[Act.put,s3];refine Ah rfl rfl (λW hW=>Iu rfl rfl rfl hl) ?_;simp only[Act.put,s3];refine Ah rfl rfl (λW hW=>Du rfl rfl hW.2 (BJ hl)) ?_;simp only[Act.put,s3];refine Ah rfl rfl (λW hW=>by go_simp;rfl) ?_;simp only[Act.put,s3];refine Ah rfl rfl (λW hW=>Aa (off:=257) rfl rfl hW.2 DR (H7 hl)) ?_
 simp only[Act.put,s3];refine Ah rfl rfl (λW hW=>by go_simp;rfl) ?_;simp only[Act.put,s3];refine Ah rfl rfl (λW hW=>Aa (off:=256) rfl rfl hW.2 DR (H8 hl)) ?_;simp only[Act.put,s3];refine Ah rfl rfl (λW hW=>by go_simp;rfl) ?_;simp only[Act.put,s3];refine iL rfl rfl (λK hK=>?_);go_simp;refine(CR.o _).mono ?_;rintro e v1⟨⟨gT,cells,rfl,hrT,hgT,htT⟩,hb1⟩;have k1:=hn.QW hb1 hrT hgT;clear hn;refine hK _ _ ⟨_,λ_ h=>h,⟨k1.below,k1.row 2 rfl⟩,?_⟩;clear hK K
 try simp only[Act.put,s3]
 refine JE 1 k1 rfl rfl rfl rfl rfl rfl (BJ (b:=⟨b.l,0,0,0,true⟩) l2) (BR (b:=⟨b.l,0,0,0,true⟩) l2 BF) ep (λw' h=>⟨h.below,h.row 2 rfl⟩) (λw6 hm6=>?_);simp only[Act.put];simp only[List.set]at hm6;refine Ah rfl rfl (λW hW=>by go_simp;rfl) ?_;simp only[Act.put,s3];refine Ah rfl rfl (λW hW=>by go_simp;rfl) ?_;simp only[Act.put,s3];refine IY ?_;go_simp;go_wp2;refine aD (Ae rfl rfl (hm6.row 1 rfl) (BJ (b:=⟨b.l,0,0,0,true⟩) l2)) rfl ?_;refine⟨⟨_,?_,.inr ⟨gT,R.length,cells,by rw[Ai],hm6.mem.own _ (eP ..),hm6.row 0 rfl,by rw[Ai];exact htT⟩⟩,hm6.below⟩;show Ending.returned (Value.tuple #[_,_,Value.bool _])=_;rfl
end
section
variable{cs cs2 ds ds2 hs ms pt:ai}{f:Bool}{e k sy:Int}{T:ac}{ss:O1}{xs:ar}{n:Nat}{a b c p q r s t:O9}{o:Oz}{x y:O7}{ad:Ov}{RR rs:ae}{pr:NY}{w w' w0:FC}
def Own.TW{d:O9}{v:NY}(h:Own w0 w (a::b::c::d::rs) ss)(hb:Below w.heap.size w w')(hs:IG w.heap.size w' v xs):∃X,gE X v xs/\Own w0 w' (a::b::c::d::(X++rs)) ss:=by
 obtain⟨X,h1,h2⟩:=h.Ox hb hs;refine⟨X,h1,h2.perm ?_⟩
 have e:(X++([a,b,c,d]++rs)).Perm ([a,b,c,d]++(X++rs)):=by
  exact rg
 exact e.symm
def Own.ZE(h:Own w0 w (t::p::q::r::s::rs) ss):Own w0 w (p::q::r::s::t::rs) ss:=h.perm (jo (l₁:=[p,q,r,s]))
def Rt:(V im).size=260:=by rw[FT BF]
def MK{a:OA}(ho:o.op=.build 76 #[(0,x),(3,y)]){c:Nat}(hx:a.eval x=.int .u8 k)(hy:a.eval y=.slice ad n c):(execOp a.eval o).run prog w=.ok (.value (.agg (aw k 0 0 0 0 (.slice ad n c) 0))) w:=
 Dq ho GV
def Wx{gp:Nat}(c:Int)(c0:0<=c)(c1:c<=1){ts er:ai}(hm:Own w0 w ((gp,PR pt hs ms ts cs ds er)::RR) ss)(Q:ae->Prop)(CT:Hid (∀W g,Own w0 W (g::(gp,PR pt hs ms ts cs ds er)::RR) ss->ak 124 #[gp,pr,.int .i64 1] W λx w'=>(x=.returned (.tuple #[.int .u32 c,.agg (aw 0 0 0 0 0 (.slice none 0 0) 0),.bool true]))/\∃RR',Q RR'/\Own w0 w' (g::(gp,PR pt hs ms ts cs ds er)::RR') ss))(CF:Hid (∀w,ak 129 #[.agg cs,.int .i64 c] w (RB w (.tuple #[.agg cs2,.int .i64 sy,.bool false]))))(hz:aq pt hs ms ts cs ds er)(kc:cs2.size=260)(oc:∀v∈cs2,v.oneCell'=true):ak 84 #[gp,pr] w λx w'=>(x=.returned (.tuple #[.agg (aw 0 0 0 0 0 (.slice none 0 0) 0),.bool false]))/\∃RR',Q RR'/\Own w0 w' ((gp,PR pt hs ms ts cs2 ds er)::RR') ss:=by
 have HZ:=aa hz;have HC:Hid (aq pt hs ms ts cs2 ds er):=aa (hz.p8 kc);have KC:=aa kc;have OC:=aa oc;have w1:IntKind.i64.wrap c=c:=av;clear hz c0 c1 kc oc;go_enter func84,ntmps84
 go_wp2_with(first
 |(go_at_call 124;have _t:=hm;refine(CT.o _ _ hm).mono ?_;clear _t hm CT;rintro x w⟨rfl,RR2,hQ,hm⟩)
 |with_reducible refine wa 76 hm BX ?_;clear hm;intro w g hm
 |with_reducible refine bh (t:=143) ?_;(first|refine A8 rfl (cg 2 hm rfl rfl rfl (LU HZ.o) HZ.o.L6 (LX HZ.o)) ?_|refine A8 rfl (eK 0 hm rfl rfl rfl HC.o.L6) ?_)
 |with_reducible refine bE (t:=143) ?_;(first|refine Ad rfl (Aw 0 hm rfl rfl (Ac rfl) rfl HC.o.L6 Ku OC.o ?_);clear hm;intro w hm;try simp only[puts,s2,List.set]at hm|refine Ad rfl (Aj 3 hm rfl rfl (Ac rfl) rfl HC.o.L6 Ky OC.o (Jy HZ.o KC.o) ?_);clear hm;intro w hm;try simp only[puts,s2,List.set]at hm)
 |refine UV ?_;try(clear hm;intro w gp hm))
 exact iz
def Wv{gp:Nat}(c:Int)(c0:0<=c)(c1:c<=1){ts er:ai}(hm:Own w0 w ((gp,PR pt hs ms ts cs ds er)::RR) ss)(Q:ae->Prop)(CT:Hid (∀W g,Own w0 W (g::(gp,PR pt hs ms ts cs ds er)::RR) ss->ak 124 #[gp,pr,.int .i64 1] W λx w'=>(x=.returned (.tuple #[.int .u32 c,.agg (aw 0 0 0 0 0 (.slice none 0 0) 0),.bool true]))/\∃RR',Q RR'/\Own w0 w' (g::(gp,PR pt hs ms ts cs ds er)::RR') ss))(CF:Hid (∀w,ak 129 #[.agg cs,.int .i64 c] w (RB w (.tuple #[.agg cs2,.int .i64 sy,.bool true]))))(hz:aq pt hs ms ts cs ds er)(kc:cs2.size=260)(oc:∀v∈cs2,v.oneCell'=true)(hT:T.length<=1000000)(CE:Hid (∀w,ak 130 #[.agg ds,.int .i64 sy] w λx w'=>(∃v,x=.returned (.tuple #[.agg ds2,v,.bool false,.int .i64 0])/\IG w.heap.size w' v (vs .u8 T))/\Below w.heap.size w w'))(kd:ds2.size=260)(od:∀v∈ds2,v.oneCell'=true):ak 84 #[gp,pr] w λx w'=>∃v X RR',x=.returned (.tuple #[.agg (aw 4 0 0 0 0 v 0),.bool (decide (0<T.length))])/\gE X v (vs .u8 T)/\Q RR'/\Own w0 w' ((gp,PR pt hs ms ts cs2 ds2 er)::(X++RR')) ss:=by
 have HZ:=aa hz;have HC:Hid (aq pt hs ms ts cs2 ds er):=aa (hz.p8 kc);have KC:=aa kc;have OC:=aa oc;have w1:IntKind.i64.wrap c=c:=av;clear hz c0 c1 kc oc;have HD:Hid (aq pt hs ms ts cs2 ds2 er):=aa (HC.o.sj kd);have KD:=aa kd;have OD:=aa od;clear kd od;go_enter func84,ntmps84
 go_wp2_with(first
 |(go_at_call 124;have _t:=hm;refine(CT.o _ _ hm).mono ?_;clear _t hm CT;rintro x w⟨rfl,RR2,hQ,hm⟩)
 |with_reducible refine wa 76 hm BX ?_;clear hm;intro w g hm
 |with_reducible refine bh (t:=143) ?_;(first|refine A8 rfl (cg 2 hm rfl rfl rfl (LU HZ.o) HZ.o.L6 (LX HZ.o)) ?_|refine A8 rfl (eK 0 hm rfl rfl rfl HC.o.L6) ?_)
 |with_reducible refine bE (t:=143) ?_;(first|refine Ad rfl (Aw 0 hm rfl rfl (Ac rfl) rfl HC.o.L6 Ku OC.o ?_);clear hm;intro w hm;try simp only[puts,s2,List.set]at hm|refine Ad rfl (Aj 3 hm rfl rfl (Ac rfl) rfl HC.o.L6 Ky OC.o (Jy HZ.o KC.o) ?_);clear hm;intro w hm;try simp only[puts,s2,List.set]at hm)
 |(go_at_call 130;have _t:=hm;refine(CE.o _).mono ?_;clear _t;rintro x w1⟨⟨v,rfl,hs⟩,hb⟩;obtain⟨ad,cc,rfl⟩:=hs.shape;obtain⟨X,hX,hm'⟩:=hm.TW hb hs;clear hm hs hb;have hm:=hm';clear hm')
 |with_reducible refine wa 147 hm Dc ?_;clear hm;intro w g12 hm
 |with_reducible refine bh (t:=147) ?_;(first|refine A8 rfl (cg 3 hm rfl rfl rfl (Q7 HC.o) HC.o.Ud (Qb HC.o)) ?_|refine A8 rfl (eK 0 hm rfl rfl rfl HD.o.Ud) ?_)
 |with_reducible refine bE (t:=147) ?_;(first|refine Ad rfl (Aw 0 hm rfl rfl (Ac rfl) rfl HD.o.Ud (by rw[KD.o,Rt]) OD.o ?_);clear hm;intro w hm;try simp only[puts,s2,List.set]at hm|refine Ad rfl (Aj 4 hm rfl rfl (Ac rfl) rfl HD.o.Ud KQ OD.o (Q8 HC.o KD.o) ?_);clear hm;intro w hm;try simp only[puts,s2,List.set]at hm)
 |with_reducible refine cS (t:=76) ?_;(refine A8 rfl (MK rfl rfl rfl) ?_)
 |refine UV ?_;try(clear hm;intro w gp hm))
 exact B6
def a0f{gp:Nat}(c:Int)(c0:0<=c)(c1:c<=1){ts er:ai}(hm:Own w0 w ((gp,PR pt hs ms ts cs ds er)::RR) ss)(Q:ae->Prop)(CT:Hid (∀W g,Own w0 W (g::(gp,PR pt hs ms ts cs ds er)::RR) ss->ak 124 #[gp,pr,.int .i64 1] W λx w'=>(x=.returned (.tuple #[.int .u32 c,.agg (aw 0 0 0 0 0 (.slice none 0 0) 0),.bool true]))/\∃RR',Q RR'/\Own w0 w' (g::(gp,PR pt hs ms ts cs ds er)::RR') ss))(CF:Hid (∀w,ak 129 #[.agg cs,.int .i64 c] w (RB w (.tuple #[.agg cs2,.int .i64 sy,.bool true]))))(hz:aq pt hs ms ts cs ds er)(kc:cs2.size=260)(oc:∀v∈cs2,v.oneCell'=true)(hT:T.length<=1000000)(CE:Hid (∀w,ak 130 #[.agg ds,.int .i64 sy] w λx w'=>(∃v,x=.returned (.tuple #[.agg ds2,v,.bool true,.int .i64 0])/\IG w.heap.size w' v (vs .u8 T))/\Below w.heap.size w w'))(kd:ds2.size=260)(od:∀v∈ds2,v.oneCell'=true):ak 84 #[gp,pr] w λx w'=>∃v X RR',x=.returned (.tuple #[.agg (aw 4 0 0 0 0 v 0),.bool (decide (0<T.length))])/\gE X v (vs .u8 T)/\Q RR'/\Own w0 w' ((gp,PR (PT 5) hs ms ts cs2 ds2 er)::(X++RR')) ss:=by
 have HZ:=aa hz;have HC:Hid (aq pt hs ms ts cs2 ds er):=aa (hz.p8 kc);have KC:=aa kc;have OC:=aa oc;have w1:IntKind.i64.wrap c=c:=av;clear hz c0 c1 kc oc;have HD:Hid (aq pt hs ms ts cs2 ds2 er):=aa (HC.o.sj kd);have KD:=aa kd;have OD:=aa od;clear kd od;go_enter func84,ntmps84
 go_wp2_with(first
 |(go_at_call 124;have _t:=hm;refine(CT.o _ _ hm).mono ?_;clear _t hm CT;rintro x w⟨rfl,RR2,hQ,hm⟩)
 |with_reducible refine wa 76 hm BX ?_;clear hm;intro w g hm
 |with_reducible refine bh (t:=143) ?_;(first|refine A8 rfl (cg 2 hm rfl rfl rfl (LU HZ.o) HZ.o.L6 (LX HZ.o)) ?_|refine A8 rfl (eK 0 hm rfl rfl rfl HC.o.L6) ?_)
 |with_reducible refine bE (t:=143) ?_;(first|refine Ad rfl (Aw 0 hm rfl rfl (Ac rfl) rfl HC.o.L6 Ku OC.o ?_);clear hm;intro w hm;try simp only[puts,s2,List.set]at hm|refine Ad rfl (Aj 3 hm rfl rfl (Ac rfl) rfl HC.o.L6 Ky OC.o (Jy HZ.o KC.o) ?_);clear hm;intro w hm;try simp only[puts,s2,List.set]at hm)
 |(go_at_call 130;have _t:=hm;refine(CE.o _).mono ?_;clear _t;rintro x w1⟨⟨v,rfl,hs⟩,hb⟩;obtain⟨ad,cc,rfl⟩:=hs.shape;obtain⟨X,hX,hm'⟩:=hm.TW hb hs;clear hm hs hb;have hm:=hm';clear hm')
 |with_reducible refine wa 147 hm Dc ?_;clear hm;intro w g12 hm
 |with_reducible refine bh (t:=147) ?_;(first|refine A8 rfl (cg 3 hm rfl rfl rfl (Q7 HC.o) HC.o.Ud (Qb HC.o)) ?_|refine A8 rfl (eK 0 hm rfl rfl rfl HD.o.Ud) ?_)
 |with_reducible refine bE (t:=147) ?_;(first|refine Ad rfl (Aw 0 hm rfl rfl (Ac rfl) rfl HD.o.Ud (by rw[KD.o,Rt]) OD.o ?_);clear hm;intro w hm;try simp only[puts,s2,List.set]at hm|refine Ad rfl (Aj 4 hm rfl rfl (Ac rfl) rfl HD.o.Ud KQ OD.o (Q8 HC.o KD.o) ?_);clear hm;intro w hm;try simp only[puts,s2,List.set]at hm)
 |go_at_call 85;refine cB OS hm ?_;clear hm;intro w1 hm
 |with_reducible refine bE (t:=134) ?_;(refine Ad rfl (Aj 4 hm rfl rfl (Ac rfl) rfl Cm (by rw[Bg HD.o];decide) Ei (Eh HD.o rfl) ?_);clear hm;intro w hm;try simp only[puts,s2,List.set]at hm)
 |with_reducible refine cS (t:=76) ?_;(refine A8 rfl (MK rfl rfl rfl) ?_)
 |refine UV ?_;try(clear hm;intro w gp hm))
 exact B6
def a0W{gp:Nat}(c:Int)(c0:0<=c)(c1:c<=1){ts er:ai}(hm:Own w0 w ((gp,PR pt hs ms ts cs ds er)::RR) ss)(Q:ae->Prop)(CT:Hid (∀W g,Own w0 W (g::(gp,PR pt hs ms ts cs ds er)::RR) ss->ak 124 #[gp,pr,.int .i64 1] W λx w'=>(x=.returned (.tuple #[.int .u32 c,.agg (aw 0 0 0 0 0 (.slice none 0 0) 0),.bool true]))/\∃RR',Q RR'/\Own w0 w' (g::(gp,PR pt hs ms ts cs ds er)::RR') ss))(CF:Hid (∀w,ak 129 #[.agg cs,.int .i64 c] w (RB w (.tuple #[.agg cs2,.int .i64 sy,.bool true]))))(hz:aq pt hs ms ts cs ds er)(kc:cs2.size=260)(oc:∀v∈cs2,v.oneCell'=true)(hT:T.length<=1000000)(CE:Hid (∀w,ak 130 #[.agg ds,.int .i64 sy] w λx w'=>(∃v,x=.returned (.tuple #[.agg ds2,v,.bool f,.int .i64 e])/\IG w.heap.size w' v (vs .u8 T))/\Below w.heap.size w w'))(kd:ds2.size=260)(od:∀v∈ds2,v.oneCell'=true)(he:e≠0):ak 84 #[gp,pr] w λx w'=>(x=.returned (.tuple #[.agg (aw 8 0 0 0 0 (.slice none 0 0) e),.bool true]))/\∃X RR',Q RR'/\Own w0 w' ((gp,PR (PT 8) hs ms ts cs2 ds (ER e))::(X++RR')) ss:=by
 have HZ:=aa hz;have HC:Hid (aq pt hs ms ts cs2 ds er):=aa (hz.p8 kc);have KC:=aa kc;have OC:=aa oc;have w1:IntKind.i64.wrap c=c:=av;clear hz c0 c1 kc oc;have HD:Hid (aq pt hs ms ts cs2 ds2 er):=aa (HC.o.sj kd);have KD:=aa kd;have OD:=aa od;clear kd od;have CW:Hid (∀{W}{g12 g9 g7 g:O9}{RR2},Own w0 W (g12::g9::g7::g::(gp,PR pt hs ms ts cs2 ds er)::RR2) ss->ak 125 #[gp,.int .i64 e] W (RO (.tuple #[.agg (aw 8 0 0 0 0 (.slice none 0 0) e),.bool true]) w0 (g12::g9::g7::g::(gp,PR (PT 8) hs ms ts cs2 ds (ER e))::RR2) ss)):=λh=>(Gf e _ (h.front 4 rfl) HC.o).mono λx w' h=>⟨h.1,h.2.ZE⟩;have q1:(e !=0)=true:=by simpa using he
 have q2:(e==0)=false:=by simpa using he
 clear he;go_enter func84,ntmps84
 go_wp2_with(first
 |(go_at_call 124;have _t:=hm;refine(CT.o _ _ hm).mono ?_;clear _t hm CT;rintro x w⟨rfl,RR2,hQ,hm⟩)
 |go_at_call 129;refine cB (CF.o _) hm ?_;clear hm;intro w1 hm
 |(with_reducible first|refine wa 76 hm BX ?_;clear hm;intro w g hm|refine wa 143 hm QA ?_;clear hm;intro w g9 hm)
 |with_reducible refine bh (t:=143) ?_;(first|refine A8 rfl (cg 2 hm rfl rfl rfl (LU HZ.o) HZ.o.L6 (LX HZ.o)) ?_|refine A8 rfl (eK 0 hm rfl rfl rfl HC.o.L6) ?_)
 |with_reducible refine bE (t:=143) ?_;(first|refine Ad rfl (Aw 0 hm rfl rfl (Ac rfl) rfl HC.o.L6 Ku OC.o ?_);clear hm;intro w hm;try simp only[puts,s2,List.set]at hm|refine Ad rfl (Aj 3 hm rfl rfl (Ac rfl) rfl HC.o.L6 Ky OC.o (Jy HZ.o KC.o) ?_);clear hm;intro w hm;try simp only[puts,s2,List.set]at hm)
 |(go_at_call 130;have _t:=hm;refine(CE.o _).mono ?_;clear _t;rintro x w1⟨⟨v,rfl,hs⟩,hb⟩;obtain⟨ad,cc,rfl⟩:=hs.shape;obtain⟨X,hX,hm'⟩:=hm.TW hb hs;clear hm hs hb;have hm:=hm';clear hm')
 |with_reducible refine wa 147 hm Dc ?_;clear hm;intro w g12 hm
 |with_reducible refine bh (t:=147) ?_;((refine A8 rfl (cg 3 hm rfl rfl rfl (Q7 HC.o) HC.o.Ud (Qb HC.o)) ?_))
 |with_reducible refine ws 147 0 hm ?_ (ht:=al HD.o.Ud) (hs:=(by with_unfolding_all rw[KD.o,Rt])) (h1:=al OD.o);clear hm;intro w hm
 |go_at_call 125;refine MP (CW.o hm) ?_;clear hm;intro w hm
 |refine UV ?_;try(clear hm;intro w gp hm))
 refine aD (Af rfl rfl (hm.row 3 rfl) Dw) rfl ⟨rfl,X,RR2,hQ,hm.dropRow.dropRow.dropRow.dropRow⟩
end
section
variable{a:OA}{ops:bl}{cs:ai}{r:Bool}{b o:DS}{Q:Exit->aJ}{s:Int}{t:ac}{rest:bt}{ss:O1}{g:Nat}{x y:O7}{P:O8}{rs:ae}{ty:O4}{w w0:FC}
def a0I(hl:b.l.length=256)(s0:¬s=0)(s1:¬s=1)(s2:¬s=257)(hf:b.run=b.left):ak 174 #[.agg (V b),.int .i64 s] w (JY w b [] false):=by
 have d0:(s==0)=false:=by simpa using s0
 have d1:(s==1)=false:=by simpa using s1
 have d2:(s==257)=false:=by simpa using s2
 have d3:(b.run==b.left)=true:=by simpa using hf
 clear hf;go_enter func174,ntmps174;have hm:=Own.nil w
 go_wp2_with(first
 |refine Ar hm rfl rfl rfl ?_;intro w1 g hm1;clear hm
 |refine AL hm1 rfl rfl Dc ?_;intro w2 g2 hm2;clear hm1
 |refine A8 rfl (Aa (off:=257) rfl rfl (hm2.row 1 rfl) DR (H7 hl)) ?_
 |refine A8 rfl (Aa (off:=256) rfl rfl (hm2.row 1 rfl) DR (H8 hl)) ?_
 |refine Ag rfl rfl rfl (hm2.row 1 rfl) (BJ hl) ?_
 |refine AY 0 hm2 rfl rfl rfl rfl rfl (BJ hl) (BR hl BF) ep ?_;intro w4 hm4;simp only[List.set]at hm4;clear hm2)
 refine aD (Ae rfl rfl (hm4.row 0 rfl) (BJ hl)) rfl ?_;exact⟨⟨_,rfl,.inl ⟨rfl,rfl⟩⟩,hm4.below⟩
def jl(h:0<=b.run):(b.rep.length:Int)=b.run:=by rw[DS.rep,fp];omega
def step_more(hl:b.l.length=256)(s0:¬s=0)(s1:¬s=1)(s2:¬s=257)(hf:¬b.run=b.left)(h0:0<=b.run)(h1:b.run<=65536)(h2:0<=b.left)(h3:b.left<=65536)(hs:0<=s/\s<=1000):ak 174 #[.agg (V b),.int .i64 s] w (JY w ⟨Ie b.l (s-1),b.left-(b.run+1),0,0,false⟩ (b.rep++[takeC b.l (s-1)]) true):=by
 have d0:(s==0)=false:=by simpa using s0
 have d1:(s==1)=false:=by simpa using s1
 have d2:(s==257)=false:=by simpa using s2
 have d3:(b.run==b.left)=false:=by simpa using hf
 have CR:Hid (∀w,ak 217 #[.agg (V b)] w (FI w b.rep)):=λw=>run_any hl h0 h1;have CT:Hid (∀w,ak 218 #[.agg (B b.l),.int .i64 (s-1)] w (RB w (.tuple #[.agg (B (Ie b.l (s-1))),.int .u8 (takeC b.l (s-1)),.bool (takeB (s-1))]))):=λw=>take_any b.l (s-1) hl;have hm1:(Ie b.l (s-1)).length=256:=Vs hl;have hw:IntKind.i64.wrap (s-1)=s-1:=av;have hR:=jl h0;obtain⟨i5,hE⟩:=Md;have HE:=aa hE;clear hE hf hs;generalize b.rep=R at*;generalize Ie b.l (s-1)=M at*;generalize takeC b.l (s-1)=c at*;generalize takeB (s-1)=f at*;have hlt:R.length<=65536:=FP
 have HR:=aa hR;have hw2:IntKind.i64.wrap (b.left-((R.length:Int)+1))=b.left-((R.length:Int)+1):=av;clear hR;go_enter func174,ntmps174;have hm:=Own.nil w
 go_wp2_with(first
 |refine Ar hm rfl rfl rfl ?_;intro w1 g hm1';clear hm
 |refine AL hm1' rfl rfl Dc ?_;intro w2 g2 hm2;clear hm1'
 |refine A8 rfl (Aa (off:=257) rfl rfl (hm2.row 1 rfl) DR (H7 hl)) ?_
 |refine A8 rfl (Aa (off:=256) rfl rfl (hm2.row 1 rfl) DR (H8 hl)) ?_
 |refine AO rfl rfl rfl (hm2.row 1 rfl) (F6 _ hl) (Ci hl) (NG hl) ?_
 |(go_at_call 218;have _t:=hm2;refine(CT.o _).mono ?_;rintro e w3⟨rfl,hb3⟩;have hm3:=hm2.call hb3;clear hm2)
 |refine AL hm3 rfl rfl QZ ?_;intro w4 g4 hm4;clear hm3
 |refine AY 0 hm4 rfl rfl rfl rfl rfl (F6 _ hm1) (QI hm1 DK) Ut ?_;intro w5 hm5;simp only[List.set]at hm5;clear hm4
 |refine Ag rfl rfl rfl (hm5.row 2 rfl) (BJ hl) ?_
 |(go_at_call 217;have _t:=hm5;refine(CR.o _).mono ?_;rintro e w6⟨⟨gT,cells,rfl,hrT,hgT,htT⟩,hb6⟩;have hm6:=hm5.QW hb6 hrT hgT;clear hm5)
 |refine QB (v:=.int .u8 c) hm6 rfl rfl HE.o rfl rfl ?_;intro w7 g7 hm7;clear hm6
 |refine Ux hm7 rfl rfl HE.o rfl (Ai .u8 R) (a0N (hm7.row 1 rfl) htT) rfl (news:=[.int .u8 c]) rfl (λj u hj=>by cases j with|zero=>simp at hj;subst hj;exact Iz (hm7.row 0 rfl) 0 rfl|succ j=>simp at hj) FP FP FP ?_;intro ad8 c8 w8 hm8;clear hm7
 |refine Ag rfl rfl rfl (hm8.row 2 rfl) (F6 _ hm1) ?_
 |refine A8 rfl (Aa (off:=256) rfl rfl (hm8.row 4 rfl) DR (H8 hl)) ?_
 |refine A8 rfl (KW rfl rfl rfl hm1) ?_
 |refine AY 3 hm8 rfl rfl rfl rfl rfl (BJ (b:=⟨M,b.left-((R.length:Int)+1),0,0,false⟩) hm1) (BR (b:=⟨M,b.left-((R.length:Int)+1),0,0,false⟩) hm1 BF) ep ?_;intro w9 hm9;simp only[List.set]at hm9;clear hm8)
 refine aD (Ae rfl rfl (hm9.row 3 rfl) (BJ (b:=⟨M,b.left-((R.length:Int)+1),0,0,false⟩) hm1)) rfl ?_;rw[<-HR.o];have e:vs .u8 R++[Value.int .u8 c]=vs .u8 (R++[c]):=by simp[vs]
 have hs:=IG.Yo (hm9.get 0 rfl);rw[e]at hs;exact⟨⟨_,rfl,hs⟩,hm9.below⟩
def rE(hl:b.l.length=256)(h0:0<=b.run)(h1:b.run<=b.left)(h3:b.left<=65536)(hd0:0<=b.dig)(hd1:b.dig<=16)(hs:0<=s/\s<=257):ak 174 #[.agg (V b),.int .i64 s] w (JY w (G9 b s).1 (G9 b s).2.1 (G9 b s).2.2):=by
 by_cases s0:s=0
 .subst s0;exact A1O hl hd0 FP
 by_cases s1:s=1
 .subst s1;exact VS hl hd0 FP
 rw[G9,aP (λh=>h.elim s0 s1)];by_cases s2:s=257
 .subst s2;rw[aQ rfl];exact rD hl h0 FP
 rw[aP s2];by_cases hf:b.run=b.left
 .rw[aQ hf];exact a0I hl s0 s1 s2 hf
 .rw[aP hf];exact step_more hl s0 s1 s2 hf h0 FP FP h3 FP
def FY(b:DS)(s:Int):DS×ac×Bool×Int:=
 if fN b=true/\b.fin=false/\0<=s/\s<=257 then(if(G9 b s).2.2=true then((G9 b s).1,(G9 b s).2.1,(G9 b s).1.fin,0)else(b,[],false,160))else(b,[],false,2)
def Us(w:FC)(o:DS×ac×Bool×Int)(x:Ending)(w':FC):Prop:=(∃v,x=.returned (.tuple #[.agg (V o.1),v,.bool o.2.2.1,.int .i64 o.2.2.2])/\IG w.heap.size w' v (vs .u8 o.2.1))/\Below w.heap.size w w'
def TL(h:fN b=true):0<=b.left/\b.left<=65536/\0<=b.run/\b.run<=b.left/\0<=b.dig/\b.dig<=16/\((dg b.run.toNat).length:Int)=b.dig:=by
 rw[fN,cR,cR]at h;exact eF h.2.1
def mZ(s:Int)(hl:b.l.length=256):(G9 b s).1.l.length=256:=by
 rw[G9];split
 .exact hl
 .split
  .exact hl
  .split
   .exact hl
   .exact Vs hl
def a1v(hl:b.l.length=256)(CV:Hid (∀w,ak 173 #[.agg (V b)] w (RB w (.bool r))))(h:r=false):ak 130 #[.agg (V b),.int .i64 s] w (Us w (b,[],false,2)):=by
 subst h;go_enter func130,ntmps130;have hm:=Own.nil w
 go_wp2_with(first
 |refine Ar hm rfl rfl rfl ?_;intro w1 g hm1;clear hm
 |refine AL hm1 rfl rfl Dc ?_;intro w2 g2 hm2;clear hm1
 |refine Ag rfl rfl rfl (hm2.row 1 rfl) (BJ hl) ?_
 |(go_at_call 173;have _t:=hm2;refine(CV.o _).mono ?_;rintro e w3⟨rfl,hb3⟩;have hm3:=hm2.call hb3;clear hm2)
 |refine Ag rfl rfl rfl (hm3.row 1 rfl) (BJ hl) ?_
 |refine AY 0 hm3 rfl rfl rfl rfl rfl (BJ hl) (BR hl BF) ep ?_;intro w4 hm4;simp only[List.set]at hm4;clear hm3)
 exact J'
def a1w(hl:b.l.length=256)(CV:Hid (∀w,ak 173 #[.agg (V b)] w (RB w (.bool r))))(h:r=true)(h2:b.fin=true):ak 130 #[.agg (V b),.int .i64 s] w (Us w (b,[],false,2)):=by
 subst h;exact xd
def Vw(hl:b.l.length=256)(CV:Hid (∀w,ak 173 #[.agg (V b)] w (RB w (.bool r))))(h:r=true)(h2:b.fin=false)(h3:s<0):ak 130 #[.agg (V b),.int .i64 s] w (Us w (b,[],false,2)):=by
 subst h;have q3:decide (s<0)=true:=aW h3;exact xd
def a0p(hl:b.l.length=256)(CV:Hid (∀w,ak 173 #[.agg (V b)] w (RB w (.bool r))))(h:r=true)(h2:b.fin=false)(h3:¬s<0)(h4:257<s):ak 130 #[.agg (V b),.int .i64 s] w (Us w (b,[],false,2)):=by
 subst h;have q3:decide (s<0)=false:=aU h3;have q4:decide (257<s)=true:=aW h4;exact xd
def Ia{o:Oz}(i:Nat)(hm:Own w0 w rs ss)(hgd:MZ o ops a)(ho:o.op=.store ty x y)(hx:a.eval x=.pointer g){vs:ai}(hy:a.eval y=.agg vs)
  (hi:rs[i]?=some (g,cs))(ht:Aq P ty vs.size)(hs:vs.size=cs.size)(h1:∀v∈vs,v.oneCell'=true)
  (h:Own w0 (w.setRow g vs) (rs.set i (g,vs)) ss->wpList P ops Q rest (a.put o.dst undef) (w.setRow g vs)):wpList P ops Q (o::rest) a w:=by
 have hrun:=Gn (P:=P) (off:=0) ho hx hy (hm.row i hi) ht rfl FP h1;rw[pY cs vs hs]at hrun;exact FN hgd hrun (h (hm.setRow i vs hi))
def R4(hl:b.l.length=256)(CV:Hid (∀w,ak 173 #[.agg (V b)] w (RB w (.bool true))))(h2:b.fin=false)(h3:¬s<0)(h4:¬257<s)(ho:o.l.length=256)(CS:Hid (∀w,ak 174 #[.agg (V b),.int .i64 s] w (JY w o t false))):ak 130 #[.agg (V b),.int .i64 s] w (Us w (b,[],false,160)):=by
 have q3:decide (s<0)=false:=aU h3;have q4:decide (257<s)=false:=aU h4;go_enter func130,ntmps130;have hm:=Own.nil w
 go_wp2_with(first
 |refine Ar hm rfl rfl rfl ?_;intro w1 g hm1;clear hm
 |refine AL hm1 rfl rfl Dc ?_;intro w2 g2 hm2;clear hm1
 |refine Ag rfl rfl rfl (hm2.row 1 rfl) (BJ hl) ?_
 |(go_at_call 173;have _t:=hm2;refine(CV.o _).mono ?_;rintro e w3⟨rfl,hb3⟩;have hm3:=hm2.call hb3;clear hm2)
 |refine A8 rfl (Aa (off:=259) rfl rfl (hm3.row 1 rfl) n9 (Qm hl)) ?_
 |refine Ag rfl rfl rfl (hm3.row 1 rfl) (BJ hl) ?_
 |(go_at_call 174;have _t:=hm3;refine(CS.o _).mono ?_;rintro e w4⟨⟨v4,rfl,hs4⟩,hb4⟩;have hm4:=hm3.call hb4;have HG:=aa ((hm3.row 0 rfl).lt);have HS4:=aa hs4;have HW:=aa hm3.below.size;clear hm3 hs4)
 |(have _t:=HG;refine Ia 0 hm4 rfl rfl rfl rfl rfl (BJ ho) (BR ho BF) ep ?_;intro hm5;simp only[List.set]at hm5;have HS5:=aa (HS4.o.setRow HG.o (V o));generalize World.setRow _ _ (V o)=w5 at hm5 HS5⊢;clear hm4 HS4 HG)
 |refine Ag rfl rfl rfl (hm5.row 1 rfl) (BJ hl) ?_
 |refine AY 0 hm5 rfl rfl rfl rfl rfl (BJ hl) (BR hl ho) ep ?_;intro w6 hm6;simp only[List.set]at hm6;clear hm5)
 refine aD (EJ rfl rfl (hm6.row 0 rfl) (BJ hl)) rfl ?_;exact⟨⟨_,rfl,.inl ⟨rfl,rfl⟩⟩,hm6.below⟩
def a1F(hl:b.l.length=256)(CV:Hid (∀w,ak 173 #[.agg (V b)] w (RB w (.bool true))))(h2:b.fin=false)(h3:¬s<0)(h4:¬257<s)(ho:o.l.length=256)(CS:Hid (∀w,ak 174 #[.agg (V b),.int .i64 s] w (JY w o t true))):ak 130 #[.agg (V b),.int .i64 s] w (Us w (o,t,o.fin,0)):=by
 have q3:decide (s<0)=false:=aU h3;have q4:decide (257<s)=false:=aU h4;go_enter func130,ntmps130;have hm:=Own.nil w
 go_wp2_with(first
 |refine Ar hm rfl rfl rfl ?_;intro w1 g hm1;clear hm
 |refine AL hm1 rfl rfl Dc ?_;intro w2 g2 hm2;clear hm1
 |refine Ag rfl rfl rfl (hm2.row 1 rfl) (BJ hl) ?_
 |(go_at_call 173;have _t:=hm2;refine(CV.o _).mono ?_;rintro e w3⟨rfl,hb3⟩;have hm3:=hm2.call hb3;clear hm2)
 |refine A8 rfl (Aa (off:=259) rfl rfl (hm3.row 1 rfl) n9 (Qm hl)) ?_
 |refine Ag rfl rfl rfl (hm3.row 1 rfl) (BJ hl) ?_
 |(go_at_call 174;have _t:=hm3;refine(CS.o _).mono ?_;rintro e w4⟨⟨v4,rfl,hs4⟩,hb4⟩;have hm4:=hm3.call hb4;have HG:=aa ((hm3.row 0 rfl).lt);have HS4:=aa hs4;have HW:=aa hm3.below.size;have HGX:=aa ((hm3.row 0 rfl).lt);clear hm3 hs4)
 |(have _t:=HG;refine Ia 0 hm4 rfl rfl rfl rfl rfl (BJ ho) (BR ho BF) ep ?_;intro hm5;simp only[List.set]at hm5;have HS5:=aa (HS4.o.setRow HG.o (V o));generalize World.setRow _ _ (V o)=w5 at hm5 HS5⊢;clear hm4 HS4 HG)
 |refine Ag rfl rfl rfl (hm5.row 0 rfl) (BJ ho) ?_
 |refine A8 rfl (Aa (off:=259) rfl rfl (hm5.row 0 rfl) n9 (Qm ho)) ?_
 |(refine Ia 0 hm5 rfl rfl rfl rfl rfl (BJ ho) (BR ho ho) ep ?_;intro hm6;simp only[List.set]at hm6;have HS6:=aa (HS5.o.setRow HGX.o (V o));generalize World.setRow _ _ (V o)=w6 at hm6 HS6⊢;clear hm5 HS5))
 refine aD (EJ rfl rfl (hm6.row 0 rfl) (BJ ho)) rfl ?_;exact⟨⟨_,rfl,HS6.o.mono HW.o⟩,hm6.below⟩
def VJ(s:Int)(w:FC)(hl:b.l.length=256)(hb:Bytes b.l):ak 130 #[.agg (V b),.int .i64 s] w (Us w (FY b s)):=by
 have RV:=λw=>eH w hl hb;rw[FY];cases hv:fN b with
|false=>
  rw[aP (λh=>by cases h.1)];exact a1v hl (aa (λw=>RV w)) hv
|true=>
  have CV:Hid (∀w,ak 173 #[.agg (V b)] w (RB w (.bool true))):=aa (λw=>by have h:=RV w;rwa[hv]at h);cases hf:b.fin with
 |true=>
   rw[aP (λh=>by cases h.2.1)];exact a1w hl CV rfl hf
 |false=>
   by_cases h3:s<0
   .rw[aP FP];exact Vw hl CV rfl hf h3
   by_cases h4:257<s
   .rw[aP FP];exact a0p hl CV rfl hf h3 h4
   rw[aQ ⟨rfl,rfl,FP,FP⟩];obtain⟨a1,a2,a3,a4,a5,a6,_⟩:=TL hv;have CS:∀w,ak 174 #[.agg (V b),.int .i64 s] w (JY w (G9 b s).1 (G9 b s).2.1 (G9 b s).2.2):=λw=>rE hl a3 a4 a2 a5 a6 FP;have hlo:=mZ s hl;cases hk:(G9 b s).2.2 with
  |true=>
    rw[aQ rfl];exact a1F hl CV hf h3 h4 hlo (aa (λw=>by have h:=CS w;rwa[hk]at h))
  |false=>
    rw[aP FU];exact R4 hl CV hf h3 h4 hlo (aa (λw=>by have h:=CS w;rwa[hk]at h))
end
open Go Go.RowKit
def Oi{most:Int}(h1:¬most<1)(h2:¬65536<most):dNew most=⟨new,most,0,0,false⟩:=by rw[dNew,aQ FP]
def pD:ai:=PR (PT 1) (HS 0 0 0 0) (MS 0 0 0 0 0 0 0) (TS Hf 0 0 0 0) (CS Hf 0 0) (V im) (ER 0)
def a18{o:Oz}{a:OA}{w:FC}{x:O7}(ho:o.op=.build 149 #[(0,x)])(hx:a.eval x=.agg (PT 1)):(execOp a.eval o).run prog w=.ok (.value (.agg pD)) w:=
 Dq ho Ip
def a0o{w0 w:FC}{rs:ae}{ss:O1}(hm:Own w0 w rs ss):ak 35 #[] w λx w'=>∃gp,x=.returned (.pointer (some ⟨gp,0,none⟩))/\Own w0 w' ((gp,pD)::rs) ss:=by
 go_enter func35,ntmps35
 go_wp2_with(first
 |go_at_call 77;refine cB iG hm ?_;clear hm;intro w1 hm
 |with_reducible refine cS (t:=149) ?_;(refine A8 rfl (a18 rfl rfl) ?_)
 |refine UV ?_;try(clear hm;intro w gp hm))
 go_ret;exact⟨_,rfl,hm⟩
def a0n:aq (PT 1) (HS 0 0 0 0) (MS 0 0 0 0 0 0 0) (TS Hf 0 0 0 0) (CS Hf 0 0) (V im) (ER 0):=⟨rfl,rfl,rfl,Dy Az,CU Az,FT BF,rfl⟩
end Go.Proofs.YtkpbhdhkdonghaaGreat
