/- Part 33 of the proof. -/
import Derived.Test.YtkpbhdhkdonghaaGreatS28
import Derived.Test.YtkpbhdhkdonghaaGreatS32
set_option linter.all false
set_option maxHeartbeats 4000000
set_option maxRecDepth 100000
namespace Go.Proofs.YtkpbhdhkdonghaaGreat
open Go Tryz Go.RowKit
section
variable{a:OA}{ss:O1}{g:Nat}{o:Oz}{x0 x1 x2 x3 x4 x5:O7}{rs:ae}{w w0:FC}
def eN:ac:=[98,97,110,97,110,97]
def xh:ac:=[97,110,110,98,97,97]
def j4:ac:=em 6 [eN]
noncomputable def GE(n:Int)(x:Except Int (Int×ac)):Bool:=match x with
|.ok (m,_)=>decide (m=n)
|.error _=>false
def P0:∃R,b8 ⟨0,0,0⟩ j4=.ok (6,R):=by
 have h:GE 6 (b8 ⟨0,0,0⟩ j4)=true:=FZ
 unfold GE at h;split at h
 .rename_i m R hm;exact⟨R,by rw[hm,eF h]⟩
 .cases h
def tM:Ij j4=(eN,1,0):=FZ
def Vv:cU (6:Nat) j4=(eN,0):=by
 obtain⟨R,hR⟩:=P0;rw[Rb hR FZ,tM]
def yW:j4.length=55:=FZ
def NN:Bytes j4:=(El (n:=6) FP FU).1
def xn{K:Value->FC->Prop}(hm:Own w0 w rs ss)(ho:o.op=.buildSlice 22 6 #[(0,x0),(1,x1),(2,x2),(3,x3),(4,x4),(5,x5)])(h0:a.eval x0=.int .u8 98)(h1:a.eval x1=.int .u8 97)(h2:a.eval x2=.int .u8 110)(h3:a.eval x3=.int .u8 97)(h4:a.eval x4=.int .u8 110)(h5:a.eval x5=.int .u8 97)
  (h:∀w' g,Own w0 w' ((g,(vs .u8 eN).toArray)::rs) ss->K (.slice (some ⟨g,0,none⟩) 6 6) w'):Eff prog o a w K:=by
 obtain⟨i,he⟩:=i8;refine Eff.val (v:=.slice (some ⟨w.heap.size,0,none⟩) 6 6) (w':=w.alloc (.cells #[.int .u8 98,.int .u8 97,.int .u8 110,.int .u8 97,.int .u8 110,.int .u8 97] 5)) ?_ (h _ _ (hm.alloc _ 5));have hz:(zeroValue 5).run prog w=.ok (.int .u8 0) w:=by simp[zeroValue,typeInfo,he.info,he.zero]
 have hr:Array.range 6=#[0,1,2,3,4,5]:=FU
 unfold execOp;simp only[ho,Instr.buildSlice,aL,bL he.under,aS,sizeOf,typeInfo,jL,he.info,cM,bT,bZ,h0,h1,h2,h3,h4,h5];exact B5
def SZ:j4≠[]:=λh=>by have:=congrArg List.length h;rw[yW]at this;cases this
def ym(h:∀j:Nat,w.cell? ⟨g,j,none⟩=(vs .u8 eN).toArray.toList[j]?):cC .u8 w (.slice g 6 6) eN:=⟨_,6,rfl,aX _,λi hi=>⟨_,rfl,by rw[fQ,dA,h i];exact Fg .u8 eN i hi⟩⟩
def Vk{v:NY}{gp:Nat}(h:cC .u8 w0 v eN)(hm:Own w0 w ((gp,#[v])::rs) ss):lf w (.slice gp 1 1) [eN]:=⟨_,1,rfl,λi hi=>by
 obtain rfl:i=0:=Nat.lt_one_iff.1 hi;refine⟨_,_,rfl,?_,h.below hm.below,λx hx=>by simp[eN]at hx;omega⟩
 rw[fQ,(hm.row 0 rfl).cell];rfl⟩
def yl(w:FC):ak 9 #[] w (RB w (.bool true)):=by
 have CM:Hid (∀W v,lf W v [eN]->ak 16 #[.int .i64 6,.int .i64 6,v,.int .i64 4] W λe w'=>∃v2,e=.returned (.tuple #[v2,.bool true])/\cC .u8 w' v2 j4/\Below W.heap.size W w'):=λW v h=>(xj (n:=6) (bud:=6) FP FP FP FP FZ (ps:=[eN]) FU FU h 4 FP FP (Own.nil W)).mono λe w'⟨X,v2,h1,h2,h3⟩=>⟨v2,h1,Lies.mw (A:=[]) (rs:=[]) h2 h3,h3.below⟩
 have CT:Hid (∀W v,cC .u8 W v j4->ak 12 #[v,.int .i64 6,.int .i64 1,.int .i64 6] W λe w'=>∃v2,e=.returned (.tuple #[v2,.int .u8 3,.int .i64 0,.bool true])/\cC .u8 w' v2 eN/\Below W.heap.size W w'):=λW v h=>by
  obtain⟨R,hR⟩:=P0;refine(AK 6 1 6 (Own.nil W) NN h (h.ie (.inl SZ)) (by rw[yW];decide) FU FU FU FU (λn' R' h=>by rw[hR]at h;injection h with h;exact(congrArg Prod.fst h).symm)).mono ?_;rintro e w'⟨X,vx,rfl,hX,hm⟩;rw[Vv]at hX⊢;exact⟨vx,rfl,Lies.mw (A:=[]) (rs:=[]) hX (by rw[fF];exact hm),hm.below⟩
 have CB:Hid (∀W v,cC .u8 W v eN->ak 32 #[v] W λe w'=>∃v2,e=.returned (.tuple #[v2,.int .i64 4])/\cC .u8 w' v2 xh/\Below W.heap.size W w'):=λW v h=>(Af8 [] [] (Own.nil W) (λW' h'=>(h.below h'.below).zu) (λx hx=>by simp[eN]at hx;omega) FU).mono λe w'⟨X,v2,h1,h2,h3⟩=>⟨v2,by rw[h1,show xm eN=4 by kernel_rfl];rfl,Lies.mw (A:=[]) (rs:=[]) (by rw[show pc eN=xh by kernel_rfl]at h2;exact h2) h3,h3.below⟩;have CV:Hid (∀W v u,cC .u8 W v j4->cC .u8 W u eN->ak 14 #[v,u] W (RB W (.bool true))):=λW v u h1 h2=>(TJ [] (Own.nil W) (λW' h'=>h1.below h'.below) NN (by rw[yW];decide) (λW' X h'=>by rw[tM];exact(h2.below h'.below).ie (.inl FU))).mono λe w'⟨h3,_,h4⟩=>⟨by rw[h3,tM];rfl,h4.below⟩;obtain⟨S,hS⟩:∃S,S=j4:=⟨_,rfl⟩;rw[<-hS]at CM CT CV
 clear hS;obtain⟨i34,hE34⟩:=wO;have HE34:=aa hE34;clear hE34;go_enter func9,ntmps9;have hm:=Own.nil w
 go_upto_region 3 with(first
 |refine Ad rfl (xn hm rfl rfl rfl rfl rfl rfl rfl ?_);clear hm;intro w gb hm
 |(refine Ad rfl (qT hm rfl (Ac rfl) ?_);clear hm;intro w hm hc;have HC:=aa (ym hc);have HM:=aa hm;clear hc hm;have hm:=Own.nil w)
 |refine Ad rfl (JQ hm rfl HE34.o (Ac rfl) rfl ?_);clear hm;intro w gp hm
 |(go_at_call 16;refine(CM.o _ _ (Vk HC.o hm)).mono ?_;rintro e w1⟨v2,rfl,hv,hb⟩;replace hm:=hm.call hb;have HV:=aa hv;clear hb hv)
 |(go_at_call 12;refine(CT.o _ _ HV.o).mono ?_;rintro e w1⟨v3,rfl,hv,hb⟩;replace hm:=hm.call hb;have HV:=aa (HV.o.below hb);have HX:=aa hv;clear hb hv))
 have HM:=aa (HM.o.call hm.below);clear hm HC;obtain⟨q,rfl⟩:∃q,q=w1:=⟨_,rfl⟩;have hm:=Own.nil q
 go_upto_region 4 with(first
 |refine Ad rfl (xn hm rfl rfl rfl rfl rfl rfl rfl ?_);clear hm;intro w gb hm
 |(refine Ad rfl (qT hm rfl (Ac rfl) ?_);clear hm;intro w hm hc;have HC:=aa (ym hc);clear hc)
 |(go_at_call 32;refine(CB.o _ _ HC.o).mono ?_;rintro e w1⟨v4,rfl,hv,hb⟩;replace hm:=hm.call hb;have HL:=aa hv;clear hb hv))
 replace HV:=aa (HV.o.below hm.below);replace HX:=aa (HX.o.below hm.below);replace HM:=aa (HM.o.call hm.below);clear hm HC;obtain⟨q,rfl⟩:∃q,q=w1:=⟨_,rfl⟩;have hm:=Own.nil q
 go_wp2_with(first
 |refine A8 rfl (m5 (v:=v3) (l:=eN) rfl underlying22 underlying5 underlying9 rfl (HX.o.ie (.inl FU))) ?_
 |refine A8 rfl (m5 (v:=v4) (l:=xh) rfl underlying22 underlying5 underlying9 rfl (HL.o.ie (.inl FU))) ?_
 |refine A8 rfl (uv rfl rfl rfl (b:=true) FZ) ?_
 |refine Ad rfl (xn hm rfl rfl rfl rfl rfl rfl rfl ?_);clear hm;intro w gb hm
 |(refine Ad rfl (qT hm rfl (Ac rfl) ?_);clear hm;intro w hm hc;have HC:=aa (ym hc);clear hc)
 |go_at_call 14;refine cB (CV.o _ _ _ (HV.o.below hm.below) HC.o) hm ?_;clear hm;intro w1 hm)
 go_ret;exact⟨rfl,(HM.o.call hm.below).below⟩
end
end Go.Proofs.YtkpbhdhkdonghaaGreat
