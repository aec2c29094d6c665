/- Part 15 of the proof. -/
import Derived.DeepKeys5
import Derived.StillTailTactics
import Derived.WalkLawsBesides
import Derived.Test.YtkpbhdhkdonghaaGreatS04
import Derived.Test.YtkpbhdhkdonghaaGreatS05
set_option linter.all false
set_option maxHeartbeats 1000000
set_option maxRecDepth 100000
namespace Go.Proofs.YtkpbhdhkdonghaaGreat.Pol
open Go Tryz Go.RowKit
variable{m m' s s':Int}{base i n r:Nat}{P:O8}{e k:O4}{w w0:FC}
def laidOut:laidOutB prog=true:=FZ
def Nm:prog.keyType 207=true:=FZ
def small:prog.types.size+2<=10000:=eF FZ
def qu:WideMaps.KeyLaw prog 207:=deep_law_gate laidOut small (eF FZ) Nm (by rw[underlying207])
def key(s m:Int):Value:=.agg #[.int .u8 s,.int .u8 m]
def ts0:0<prog.types.size:=eF FZ
def ts:∃n,prog.types.size=n+1:=⟨prog.types.size-1,by have:=ts0;omega⟩
def YE:prog.cellsOf 207=2:=FZ
def c5:prog.cellsOf 5=1:=FZ
def dP{f0 f1:Field}(hu:P.underlying k=some (.struct #[f0,f1]))(he:P.underlying e=some (.int .u8))(h0:f0.type=e)(h1:f1.type=e)(o0:f0.offset=0)(o1:f1.offset=1)(n0:f0.name≠ "_")(n1:f1.name≠ "_")
  (hk:P.keyType k=true)(ck:P.cellsOf k=2)(ce:P.cellsOf e=1)(hn:P.types.size=n+1)(hs:(Lit.int .u8 s).wf=true)(hm:(Lit.int .u8 m).wf=true):∃l,keyOf P k (key s m)=some l:=by
 have f:(Value.agg #[.int .u8 s,.int .u8 m]).formed P k=true:=by
  simp[Value.formed,hu,ck]
 simp[keyOf,hu,hk,f,hn,Program.keyLits,key,Value.cells,ck,ce,he,hs,hm,h0,h1,o0,o1,n0,n1]
def vC(hs:(Lit.int .u8 s).wf=true)(hm:(Lit.int .u8 m).wf=true):∃l,keyOf prog 207 (key s m)=some l:=by
 obtain⟨n,hn⟩:=ts;exact dP underlying207 underlying5 rfl rfl rfl rfl FU FU Nm YE c5 hn hs hm
def key_inj(h:key s m=key s' m'):s=s'/\m=m':=by
 simpa[key]using h
def V(f:Nat):Value:=.func (.func f) #[] #[]
def WI(i:Nat):Int:=if i=3\/i=6\/i=8 then 1 else 2
def gA(i:Nat):Int:=if i=3\/i=10 then 1 else if i=6\/i=12 then 2 else 3
def lJ(i:Nat):Value:=V (if i=3\/i=6 then 176 else if i=8 then 177 else if i=10 then 178 else if i=12 then 179 else 180)
def IX:b9:=[3,6,8,10,12,14]
def Z5:∀i∈IX,∀j∈IX,WI i=WI j->gA i=gA j->i=j:=FU
def sd:∀i∈IX,(Lit.int .u8 (WI i)).wf=true/\(Lit.int .u8 (gA i)).wf=true:=FU
def Holds(w:FC)(r:Nat)(rem:b9):Prop:=∃es clock,w.heap[r]?=some (.map es clock)/\
 (∀e∈es.toList,∃i∈IX,i∉rem/\e.key=key (WI i) (gA i)/\e.val=lJ i)/\(∀i∈IX,i∉rem->∃e∈es.toList,e.key=key (WI i) (gA i))
def Holds.keyed{es:Array MapEntry}{rem:b9}(h:∀e∈es.toList,∃i∈IX,i∉rem/\e.key=key (WI i) (gA i)/\e.val=lJ i):∀e∈es.toList,∃l,keyOf prog 207 e.key=some l:=by
 intro e he;obtain⟨i,hi,_,hk,_⟩:=h e he;rw[hk];exact vC (sd i hi).1 (sd i hi).2
def Holds.made(w:FC):Holds (w.alloc (.map #[] 0)) w.heap.size IX:=
 ⟨#[],0,by show(w.heap.push _)[w.heap.size]?=_;simp,λe he=>by simp at he,λi hi hn=>absurd hi hn⟩
def A56{rem:b9}(hn:rem.Nodup)(hi:i∈rem)(hx:i∈IX)(h:Holds w r rem)(hb:Below base w0 w)(hr:base<=r):
  ∃w',(Instr.mapUpdate 204 (.map (some r)) (key (WI i) (gA i)) (lJ i)).run prog w=.ok () w'/\Holds w' r (rem.erase i)/\Below base w0 w':=by
 obtain⟨es,clock,he,h1,h2⟩:=h;obtain⟨l,hl⟩:=vC (sd i hx).1 (sd i hx).2;have hlt:=(ji.1 he).1;rcases qu.find w hl es.toList (Holds.keyed h1)with⟨f1,f2⟩|⟨j,e0,f1,f2,f3⟩
 .refine⟨ChangeMaps.setBlock w r (.map (es.push ⟨key (WI i) (gA i),lJ i,clock⟩) (clock+1)),?_,⟨es.push ⟨key (WI i) (gA i),lJ i,clock⟩,clock+1,?_,?_,?_⟩,?_⟩
  .simp[Instr.mapUpdate,bL underlying204,mP he,qu.check w false hl,f1,MapKept.run_setObj_map _ he,Result.andThen,ChangeMaps.setBlock]
  .simp[ChangeMaps.setBlock,hlt]
  .intro e hm;simp only[Array.toList_push,dG,fC]at hm;rcases hm with hm|rfl
   .obtain⟨k,hk,hkr,hk2⟩:=h1 e hm;exact⟨k,hk,λhc=>hkr (List.mem_of_mem_erase hc),hk2⟩
   .exact⟨i,hx,λhc=>by rw[hn.mem_erase_iff]at hc;exact hc.1 rfl,rfl,rfl⟩
  .intro k hk hkr;by_cases hki:k=i
   .subst hki;exact⟨⟨key (WI k) (gA k),lJ k,clock⟩,G5,rfl⟩
   .obtain⟨e,hm,hke⟩:=h2 k hk (λhc=>hkr (by rw[hn.mem_erase_iff];exact⟨hki,hc⟩));exact⟨e,by simp[hm],hke⟩
  .refine⟨hb.os,hb.tape,hb.output,?_,λk hk=>?_⟩
   .simpa[ChangeMaps.setBlock]using hb.size
   .rw[<-hb.block k hk];simp only[ChangeMaps.setBlock];rw[tq FP]
 .exfalso;have hm0:e0∈es.toList:=dT f2;obtain⟨k,hk,hkr,hk2,_⟩:=h1 e0 hm0;rw[f3]at hk2;obtain⟨q1,q2⟩:=key_inj hk2;rw[Z5 i hx k hk q1 q2]at hi;exact hkr hi
def plan(s m:Int):Option Nat:=if s=1 then(if m=1\/m=2 then some 176 else if m=3 then some 177 else none)else if s=2 then(if m=1 then some 178 else if m=2 then some 179 else if m=3 then some 180 else none)else none
def T7:∀i∈IX,∃f,plan (WI i) (gA i)=some f/\lJ i=V f:=by
 have:∀i∈IX,∃f∈[176,177,178,179,180],plan (WI i) (gA i)=some f/\(if i=3\/i=6 then 176 else if i=8 then 177 else if i=10 then 178 else if i=12 then 179 else 180)=f:=FU
 intro i hi;obtain⟨f,_,h1,h2⟩:=this i hi;exact⟨f,h1,by rw[lJ,h2]⟩
def A5N(h:∀i∈IX,¬(WI i=s/\gA i=m)):plan s m=none:=by
 have a1:=h 3 FU;have a2:=h 6 FU;have a3:=h 8 FU;have a4:=h 10 FU;have a5:=h 12 FU;have a6:=h 14 FU;simp[WI,gA]at a1 a2 a3 a4 a5 a6;unfold plan
 repeat' split
 all_goals first|rfl|omega
def found(o:Oo):Value:=match o with|some f=>.tuple #[V f,.bool true]|none=>.tuple #[.nilFunc,.bool false]
def Ps(h:Holds w r [])(hs:(Lit.int .u8 s).wf=true)(hm:(Lit.int .u8 m).wf=true):
  (Instr.lookup 204 (.map (some r)) (key s m) true).run prog w=.ok (found (plan s m)) w:=by
 obtain⟨es,clock,he,h1,h2⟩:=h;obtain⟨l,hl⟩:=vC hs hm;have hz:(zeroValue 202).run prog w=.ok .nilFunc w:=FZ
 rcases qu.find w hl es.toList (Holds.keyed h1)with⟨f1,f2⟩|⟨j,e0,f1,f2,f3⟩
 .have hp:plan s m=none:=A5N λi hi hc=>by
   obtain⟨e,hme,hke⟩:=h2 i hi G5;exact f2 e hme (by rw[hke,hc.1,hc.2])
  rw[hp];simp[Instr.lookup,bL underlying204,mP he,qu.check w _ hl,f1,hz,Result.andThen,found]
 .have hm0:e0∈es.toList:=dT f2;obtain⟨k,hk,_,hk2,hk3⟩:=h1 e0 hm0;rw[f3]at hk2;obtain⟨q1,q2⟩:=key_inj hk2;obtain⟨f,hp,hv⟩:=T7 k hk;rw[<-q1,<-q2]at hp;rw[hp];simp[Instr.lookup,bL underlying204,mP he,qu.check w _ hl,f1,Result.andThen,found,hk3,hv]
end Go.Proofs.YtkpbhdhkdonghaaGreat.Pol

namespace Go.Proofs.YtkpbhdhkdonghaaGreat.Pol
open Go Tryz Go.RowKit
variable{a:OA}{i:Nat}{o:Oz}{x y z:O7}{t:O4}{vx vy vz:NY}{w w':FC}{S:OE}
section
variable{P:O8}{ops:bl}{Q:Exit->aJ}
def mf{C:(FC->Prop)->aJ}{r:Ou}{v:NY}(ho:ops.toList[i]?=some o)(hw:MZ o ops a)
  (hrun:∀W,S W->(execOp a.eval o).run P W=.ok (.value v) W)(h:l5 P ops Q C r S (a.put o.dst v) w):l5 P ops Q C ((i,true)::r) S a w:=
 ⟨o,v,by rw[<-cE];exact ho,.inl ⟨hw,hrun⟩,h⟩
def Qf{C:(FC->Prop)->aJ}{r:Ou}{v:NY}(ho:ops.toList[i]?=some o)(hw:MZ o ops a)
  (hrun:(execOp a.eval o).run P w=.ok (.value v) w')(hS:S w')(h:l5 P ops Q C r S (a.put o.dst v) w'):l5 P ops Q C ((i,false)::r) S a w:=by
 have ho':ops[i]?=some o:=by rw[<-cE];exact ho
 unfold l5 wpOp;simp only[ho',hw,fP];refine .inl ?_;unfold Oper.wp;rw[hrun];exact⟨S,λ_ h=>h,hS,h⟩
def TX{K:aJ}(ho:ops.toList[i]?=some o)(hw:MZ o ops a)(hd:o.dst=none)
  (hrun:(execOp a.eval o).run P w=.ok .skip w')(h:K a w'):wpOp P ops Q i K a w:=by
 have ho':ops[i]?=some o:=by rw[<-cE];exact ho
 unfold wpOp;simp only[ho',hw,fP];refine .inl ?_;unfold Oper.wp;rw[hrun];show K (a.put o.dst undef) w';rw[hd];exact h
def Zm(ho:o.op=.insert t x y z)(hx:a.eval x=vx)(hy:a.eval y=vy)(hz:a.eval z=vz)(hr:(Instr.mapUpdate t vx vy vz).run P w=.ok () w'):
  (execOp a.eval o).run P w=.ok .skip w':=by
 subst hx hy hz;unfold execOp;simp only[ho,aL,hr,aS,bw]
def Xm(ho:o.op=.makeMap t none):(execOp a.eval o).run P w=.ok (.value (.map (some w.heap.size))) (w.alloc (.map #[] 0)):=by
 unfold execOp;simp only[ho,xZ,aL,run_makeMap,aS,bw]
end
def Hj{P:O8}{ops:bl}{Q:Exit->aJ}{r:Ou}{v:NY}(ho:ops.toList[i]?=some o)(hw:MZ o ops a)
  (hrun:∀W,S W->(execOp a.eval o).run P W=.ok (.value v) W)(h:Ej P ops Q r S (a.put o.dst v) w):Ej P ops Q ((i,true)::r) S a w:=
 NZ I8 hw hrun h
def subs:b9->List b9
|[]=>[[]]
|x::l=>(subs l).map (x::·)++subs l
def PK(rem:b9):Array Bool:=((List.range 17).map λi=>!(rem.contains i||i==15||i==16)).toArray
def A6G:∀rem∈subs IX,rem.Nodup/\∀i∈rem,i∈IX:=by decide+kernel
def nk:ak 135 #[] w λe w'=>(∃r,e=.returned (.map (some r))/\Holds w' r [])/\Below w.heap.size w w':=by
 go_enter func135,ntmps135
 go_wp2_with fail
 refine A3Q [(1,true),(2,true),(4,true),(5,true),(7,true),(9,true),(11,true),(13,true),(0,false)] (subs IX) PK IX [(15,true),(16,true)] (λ_=>True) rfl FZ rfl FZ FZ FZ FZ (λ_ _ d _ _ h=>by cases d<;>exact h) trivial ?_;refine mf rfl rfl (λW _=>by go_simp;rfl) ?_;simp only[Act.put,s3];refine mf rfl rfl (λW _=>by go_simp;rfl) ?_;simp only[Act.put,s3];refine mf rfl rfl (λW _=>by go_simp;rfl) ?_;simp only[Act.put,s3];refine mf rfl rfl (λW _=>by go_simp;rfl) ?_;simp only[Act.put,s3];refine mf rfl rfl (λW _=>by go_simp;rfl) ?_;simp only[Act.put,s3];refine mf rfl rfl (λW _=>by go_simp;rfl) ?_;simp only[Act.put,s3];refine mf rfl rfl (λW _=>by go_simp;rfl) ?_;simp only[Act.put,s3];refine mf rfl rfl (λW _=>by go_simp;rfl) ?_;simp only[Act.put,s3];refine Qf rfl rfl (Xm rfl) trivial ?_
 simp only[Act.put,s3];refine⟨λrem W=>Holds W w.heap.size rem/\Below w.heap.size w W,λ_ _ _=>trivial,⟨Holds.made _,((Below.refl _ w).drew.alloc (aX _) _)⟩,?_,?_⟩
 .intro rem hrem i hi W hW;obtain⟨hn,hx⟩:=A6G rem hrem;obtain⟨W',hr,h1,h2⟩:=A56 hn hi (hx i hi) hW.1 hW.2 (aX _);have hix:=hx i hi;simp only[IX,dh,qL,qM]at hix;rcases hix with rfl|rfl|rfl|rfl|rfl|rfl
  .exact nE
  .exact nE
  .exact nE
  .exact nE
  .exact nE
  .exact nE
 .intro W hW;refine Hj rfl rfl (λW _=>by go_simp;rfl) ?_;simp only[Act.put,s3];refine Hj rfl rfl (λW _=>by go_simp;rfl) ?_;simp only[Act.put,lY,EP];refine IY ?_;go_simp
  go_wp2_with fail
  go_ret;exact⟨⟨_,rfl,hW.1⟩,hW.2⟩
end Go.Proofs.YtkpbhdhkdonghaaGreat.Pol

namespace Go.Proofs.YtkpbhdhkdonghaaGreat.Pol
open Go Tryz Go.RowKit
variable{a:OA}{ops:bl}{Q:Exit->aJ}{v0 v1 v2:Int}{rest:bt}{ss:O1}{o:Oz}{x0 x1 x2:O7}{rs:ae}{w w0:FC}
def i8:∃i,Gv prog 124 3 i (.int .i64 0) 8:=Gv.ex underlying124 FZ rfl
abbrev J(l:ac):ai:=(vs .i64 l).toArray
def _root_.Go.Proofs.YtkpbhdhkdonghaaGreat.Own.lit(h:Own w0 w rs ss)(l:ac)(hl:l.length<=maxLen):
  Own w0 (w.alloc (.cells (J l) 3)) rs ((.slice (some ⟨w.heap.size,0,none⟩) l.length l.length,3,vs .i64 l)::ss):=by
 refine h.fG ((Below.refl _ w).alloc (aX _) _) ?_;rw[Ai];have:=World.ownsRow_lit (base:=w.heap.size) (size:=1) (e:=3) w (J l) l.length (aX _) hl (by simp[J,Ai]);simpa[J]using this
def A5T(ho:o.op=.buildSlice 124 1 #[(0,x0)])(h0:a.eval x0=.int .i64 v0):
  (execOp a.eval o).run prog w=.ok (.value (.slice (some ⟨w.heap.size,0,none⟩) 1 1)) (w.alloc (.cells (J [v0]) 3)):=by
 unfold execOp;obtain⟨i5,he⟩:=i8;have hz:(zeroValue 3).run prog w=.ok (.int .i64 0) w:=by simp[zeroValue,typeInfo,he.info,he.zero]
 have hr:Array.range 1=#[0]:=FU
 simp only[ho,Instr.buildSlice,aL,bL he.under,aS,sizeOf,typeInfo,jL,he.info,cM,bT,bZ,h0];exact ur
def R9(hm:Own w0 w rs ss)(hgd:MZ o ops a)
  (ho:o.op=.buildSlice 124 1 #[(0,x0)])(h0:a.eval x0=.int .i64 v0)
  (h:∀w' g,Own w0 w' rs ((.slice (some ⟨g,0,none⟩) 1 1,3,vs .i64 [v0])::ss)->wpList prog ops Q rest (a.put o.dst (.slice (some ⟨g,0,none⟩) 1 1)) w'):wpList prog ops Q (o::rest) a w:=
 A8 hgd (A5T ho h0) (h _ _ (hm.lit [v0] (by simp[maxLen])))
def A5S(ho:o.op=.buildSlice 124 2 #[(0,x0),(1,x1)])(h0:a.eval x0=.int .i64 v0)(h1:a.eval x1=.int .i64 v1):
  (execOp a.eval o).run prog w=.ok (.value (.slice (some ⟨w.heap.size,0,none⟩) 2 2)) (w.alloc (.cells (J [v0,v1]) 3)):=by
 unfold execOp;obtain⟨i5,he⟩:=i8;have hz:(zeroValue 3).run prog w=.ok (.int .i64 0) w:=by simp[zeroValue,typeInfo,he.info,he.zero]
 have hr:Array.range 2=#[0,1]:=FU
 simp only[ho,Instr.buildSlice,aL,bL he.under,aS,sizeOf,typeInfo,jL,he.info,cM,bT,bZ,h0,h1];exact ur
def Xe(hm:Own w0 w rs ss)(hgd:MZ o ops a)
  (ho:o.op=.buildSlice 124 2 #[(0,x0),(1,x1)])(h0:a.eval x0=.int .i64 v0)(h1:a.eval x1=.int .i64 v1)
  (h:∀w' g,Own w0 w' rs ((.slice (some ⟨g,0,none⟩) 2 2,3,vs .i64 [v0,v1])::ss)->wpList prog ops Q rest (a.put o.dst (.slice (some ⟨g,0,none⟩) 2 2)) w'):wpList prog ops Q (o::rest) a w:=
 A8 hgd (A5S ho h0 h1) (h _ _ (hm.lit [v0,v1] (by simp[maxLen])))
def QM(ho:o.op=.buildSlice 124 3 #[(0,x0),(1,x1),(2,x2)])(h0:a.eval x0=.int .i64 v0)(h1:a.eval x1=.int .i64 v1)(h2:a.eval x2=.int .i64 v2):
  (execOp a.eval o).run prog w=.ok (.value (.slice (some ⟨w.heap.size,0,none⟩) 3 3)) (w.alloc (.cells (J [v0,v1,v2]) 3)):=by
 unfold execOp;obtain⟨i5,he⟩:=i8;have hz:(zeroValue 3).run prog w=.ok (.int .i64 0) w:=by simp[zeroValue,typeInfo,he.info,he.zero]
 have hr:Array.range 3=#[0,1,2]:=FU
 simp only[ho,Instr.buildSlice,aL,bL he.under,aS,sizeOf,typeInfo,jL,he.info,cM,bT,bZ,h0,h1,h2];exact ur
def A3v(hm:Own w0 w rs ss)(hgd:MZ o ops a)
  (ho:o.op=.buildSlice 124 3 #[(0,x0),(1,x1),(2,x2)])(h0:a.eval x0=.int .i64 v0)(h1:a.eval x1=.int .i64 v1)(h2:a.eval x2=.int .i64 v2)
  (h:∀w' g,Own w0 w' rs ((.slice (some ⟨g,0,none⟩) 3 3,3,vs .i64 [v0,v1,v2])::ss)->wpList prog ops Q rest (a.put o.dst (.slice (some ⟨g,0,none⟩) 3 3)) w'):wpList prog ops Q (o::rest) a w:=
 A8 hgd (QM ho h0 h1 h2) (h _ _ (hm.lit [v0,v1,v2] (by simp[maxLen])))
end Go.Proofs.YtkpbhdhkdonghaaGreat.Pol
