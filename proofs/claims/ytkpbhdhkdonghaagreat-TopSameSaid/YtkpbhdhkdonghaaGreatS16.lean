/- Part 16 of the proof. -/
import Derived.Test.YtkpbhdhkdonghaaGreatS12
import Derived.Test.YtkpbhdhkdonghaaGreatS15
set_option linter.all false
namespace Go.Proofs.YtkpbhdhkdonghaaGreat
open Go Tryz Go.RowKit
section
variable{xs ys:ar}{base kt mt r vt:Nat}{x y z:O7}{t:O4}{k:NY}{w':FC}
abbrev IK(r:Nat)(xs:ar):Sl:=(.slice none 0 0,Ey+r,xs)
def YM(r:Nat)(xs:ar):¬(IK r xs).2.1<Ey:=by simp[IK,Ey]
def SI:(IK r xs).2.1-Ey=r:=by simp[IK]
def Jw.map{w:FC}(h:Jw w base (IK r xs)):base<=r/\N9 w r xs:=by
 obtain⟨h1,h2,_⟩:=h.mp (YM r xs);rw[SI]at h1 h2;exact⟨h1,h2⟩
def Jw.of_map{w:FC}(h1:base<=r)(h2:N9 w r xs):Jw w base (IK r xs):=
 ⟨λh=>absurd h (YM r xs),λ_=>⟨by rw[SI];exact h1,by rw[SI];exact h2,rfl⟩⟩
section
variable{w0 w:FC}{rs:ae}{ss:O1}
def Own.uz(h:Own w0 w rs ss):Own w0 (w.alloc (.map #[] 0)) rs (IK w.heap.size []::ss)/\∀s∈ss,s.2.1≠Ey+w.heap.size:=by
 have h':=h.PV (.map #[] 0);refine⟨⟨h'.mem,λs hs=>?_,by simpa[iZ,Value.ownBlock]using h'.apart⟩,λs hs e=>?_⟩
 .rcases dh.1 hs with rfl|hs
  .exact Jw.of_map h.below.size ⟨#[],0,by show(w.heap.push _)[w.heap.size]?=_;simp,λe he=>by simp at he,λp hp=>by simp[BN]at hp,by simp[BN]⟩
  .exact h'.sl s hs
 .have hS:=h.sl s hs;have hq:¬s.2.1<Ey:=by rw[e];simp
  have:=(hS.mp hq).2.1.lt;rw[e]at this;simp at this
def Own.V1(h:Own w0 w rs (IK r xs::ss))(hd:∀s∈ss,s.2.1≠Ey+r)(hg:w.grownBy w' (some r))(hM:N9 w' r ys):Own w0 w' rs (IK r ys::ss):=by
 obtain⟨hb,hm⟩:=(h.sl (IK r xs) eP).map
 have hcell:∀k cs t f,w.heap[k]?=some (.cells cs t f)->some k≠some r:=λk cs t f hk e=>by
  cases e;obtain⟨es,c,h1,_⟩:=hm;rw[h1]at hk;cases hk
 refine⟨h.mem.grown hg (λk e=>by cases e;exact hb) (λk e hk=>?_),λs hs=>?_,by simpa[iZ,Value.ownBlock]using h.apart⟩
 .obtain⟨p,hp,e2⟩:=eX.1 hk;obtain⟨t,ht⟩:=h.mem.rows p hp;rw[e2]at ht;exact hcell k _ _ _ ht e.symm
 .rcases dh.1 hs with rfl|hs
  .exact Jw.of_map hb hM
  .have hS:=h.sl s (by simp[hs]);refine⟨λhq=>(hS.sl hq).kept hg ?_,λhq=>?_⟩
   .cases hk:s.1.ownBlock with
   |none=>exact .inl rfl
   |some g=>
     obtain⟨cs,t,f,hgb⟩:=hS.cells g hk;exact .inr (hcell g _ _ _ hgb)
   .obtain⟨h1,h2,h3⟩:=hS.mp hq;refine⟨h1,h2.block (hg.block _ h2.lt λe=>?_),h3⟩;have e2:s.2.1-Ey=r:=Ea e;exact hd s hs (by rw[<-e2];exact(Nat.add_sub_cancel' (tV hq)).symm)
def Y7{v:NY}(hu:prog.underlying mt=some (.map kt vt))(kl:Maps.Keyed prog kt)(h:Own w0 w rs (IK r xs::ss))(hd:∀s∈ss,s.2.1≠Ey+r)
  (hk:∃l,keyOf prog kt k=some l)(hks:∀p∈BN xs,∃l,keyOf prog kt p.1=some l)(hn:∀p∈BN xs,p.1≠k):
  ∃w',(Instr.mapUpdate mt (.map (some r)) k v).run prog w=.ok () w'/\Own w0 w' rs (IK r (k::v::xs)::ss):=by
 obtain⟨hb,es,clock,he,h1,h2,h3⟩:=(h.sl (IK r xs) eP).map;obtain⟨l,hl⟩:=hk;have hlt:=(ji.1 he).1;rcases kl.find w hl es.toList (λe hm=>hks (e.key,e.val) (h1 e hm))with⟨f1,f2⟩|⟨j,e0,f1,f2,f3⟩
 .refine⟨ChangeMaps.setBlock w r (.map (es.push ⟨k,v,clock⟩) (clock+1)),?_,h.V1 hd ⟨rfl,rfl,rfl,by simp[ChangeMaps.setBlock],λq _ hqr=>?_⟩ ⟨es.push ⟨k,v,clock⟩,clock+1,?_,?_,?_,by simp[BN,h3]⟩⟩
  .simp[Instr.mapUpdate,bL hu,mP he,kl.check w false hl,f1,MapKept.run_setObj_map _ he,Result.andThen,ChangeMaps.setBlock]
  .simp only[ChangeMaps.setBlock];rw[tq (λe=>hqr (by rw[e]))]
  .simp[ChangeMaps.setBlock,hlt]
  .intro e hm;simp only[Array.toList_push,dG,fC]at hm;rcases hm with hm|rfl
   .exact fB _ (h1 e hm)
   .simp[BN]
  .intro p hp;simp only[BN]at hp;rcases dh.1 hp with rfl|hp
   .exact⟨⟨k,v,clock⟩,G5,rfl⟩
   .obtain⟨e,hm,hke⟩:=h2 p hp;exact⟨e,by simp[hm],hke⟩
 .exact absurd f3 (hn _ (h1 e0 (dT f2)))
def lF{v:NY}(hu:prog.underlying mt=some (.map kt vt))(kl:Maps.Keyed prog kt)(hM:N9 w r xs)
  (hk:∃l,keyOf prog kt k=some l)(hks:∀p∈BN xs,∃l,keyOf prog kt p.1=some l)(hin:∃p∈BN xs,p.1=k)(hv:∀p∈BN xs,p.1=k->p.2=v):
  (Instr.lookup mt (.map (some r)) k false).run prog w=.ok v w:=by
 obtain⟨es,clock,he,h1,h2,_⟩:=hM;obtain⟨l,hl⟩:=hk;exact Mu
variable{o:Oz}{a:OA}{K:Value->FC->Prop}
def BD(hm:Own w0 w rs ss)(ho:o.op=.makeMap t none)(h:∀w' r,Own w0 w' rs (IK r []::ss)->(∀s∈ss,s.2.1≠Ey+r)->K (.map (some r)) w'):Eff prog o a w K:=
 Eff.val (Pol.Xm ho) (h _ _ hm.uz.1 hm.uz.2)
def Bj{v:NY}(hm:Own w0 w rs (IK r xs::ss))(hd:∀s∈ss,s.2.1≠Ey+r)(ho:o.op=.insert mt x y z)(hx:a.eval x=.map (some r))(hy:a.eval y=k)(hz:a.eval z=v)(hu:prog.underlying mt=some (.map kt vt))(kl:Maps.Keyed prog kt)
  (hk:∃l,keyOf prog kt k=some l)(hks:∀p∈BN xs,∃l,keyOf prog kt p.1=some l)(hn:∀p∈BN xs,p.1≠k)(h:∀w',Own w0 w' rs (IK r (k::v::xs)::ss)->K undef w'):Eff prog o a w K:=by
 obtain⟨w',hr,h2⟩:=Y7 (v:=v) hu kl hm hd hk hks hn;exact Eff.skip (Pol.Zm ho hx hy hz hr) (h _ h2)
def Ez{v:NY}(i:Nat)(hm:Own w0 w rs ss)(ho:o.op=.lookup mt x y false)(hx:a.eval x=.map (some r))(hy:a.eval y=k)(hi:ss[i]?=some (IK r xs))(hu:prog.underlying mt=some (.map kt vt))(kl:Maps.Keyed prog kt)
  (hk:∃l,keyOf prog kt k=some l)(hks:∀p∈BN xs,∃l,keyOf prog kt p.1=some l)(hin:∃p∈BN xs,p.1=k)(hv:∀p∈BN xs,p.1=k->p.2=v):(execOp a.eval o).run prog w=.ok (.value v) w:=by
 have hM:=((hm.sl _ (dT hi)).map).2;unfold execOp;simp only[ho,hx,hy,aL,lF hu kl hM hk hks hin hv,aS,bw]
end
end
section
variable{m n s:Int}{P:O8}{e k:O4}
def m7:Maps.Keyed prog 3:=Maps.int_keyed underlying3
def il:Maps.Keyed prog 5:=Maps.int_keyed underlying5
def GL:Maps.Keyed prog 134:=Maps.Keyed.of_law (deep_law_gate Pol.laidOut Pol.small (eF FZ) FZ (by rw[underlying134]))
def rz:Maps.Keyed prog 241:=Maps.Keyed.of_law (deep_law_gate Pol.laidOut Pol.small (eF FZ) FZ (by rw[underlying241]))
def EY(h:(Lit.int .i64 n).wf=true):∃l,keyOf prog 3 (.int .i64 n)=some l:=⟨_,Maps.keyOf_int_mk underlying3 h⟩
def sL(h:(Lit.int .u8 n).wf=true):∃l,keyOf prog 5 (.int .u8 n)=some l:=⟨_,Maps.keyOf_int_mk underlying5 h⟩
def vH{f0:Field}(hu:P.underlying k=some (.struct #[f0]))(he:P.underlying e=some (.int .i64))(h0:f0.type=e)(o0:f0.offset=0)(n0:f0.name≠ "_")
  (hk:P.keyType k=true)(ck:P.cellsOf k=1)(ce:P.cellsOf e=1){n:Nat}(hn:P.types.size=n+1)(hs:(Lit.int .i64 s).wf=true):∃l,keyOf P k (.agg #[.int .i64 s])=some l:=by
 have f:(Value.agg #[.int .i64 s]).formed P k=true:=by
  simp[Value.formed,hu,ck]
 simp[keyOf,hu,hk,f,hn,Program.keyLits,Value.cells,ck,ce,he,hs,h0,o0,n0]
def UE(hs:(Lit.int .i64 s).wf=true):∃l,keyOf prog 134 (.agg #[.int .i64 s])=some l:=by
 obtain⟨n,hn⟩:=Pol.ts;exact vH underlying134 underlying3 rfl rfl FU FZ FZ FZ hn hs
def a04{f0 f1:Field}(hu:P.underlying k=some (.struct #[f0,f1]))(he:P.underlying e=some (.int .i64))(h0:f0.type=e)(h1:f1.type=e)(o0:f0.offset=0)(o1:f1.offset=1)(n0:f0.name≠ "_")(n1:f1.name≠ "_")
  (hk:P.keyType k=true)(ck:P.cellsOf k=2)(ce:P.cellsOf e=1){n:Nat}(hn:P.types.size=n+1)(hs:(Lit.int .i64 s).wf=true)(hm:(Lit.int .i64 m).wf=true):∃l,keyOf P k (.agg #[.int .i64 s,.int .i64 m])=some l:=by
 have f:(Value.agg #[.int .i64 s,.int .i64 m]).formed P k=true:=by
  simp[Value.formed,hu,ck]
 simp[keyOf,hu,hk,f,hn,Program.keyLits,Value.cells,ck,ce,he,hs,hm,h0,h1,o0,o1,n0,n1]
def vD(hs:(Lit.int .i64 s).wf=true)(hm:(Lit.int .i64 m).wf=true):∃l,keyOf prog 241 (.agg #[.int .i64 s,.int .i64 m])=some l:=by
 obtain⟨n,hn⟩:=Pol.ts;exact a04 underlying241 underlying3 rfl rfl rfl rfl FU FU FZ FZ FZ hn hs hm
end
def kc:Value->Option Int
|.int _ n=>some n
|.agg #[.int _ n]=>some n
|_=>none
def Nd(ps:List (Value×Value))(k:NY):Bool:=ps.all λp=>(kc p.1).isSome&&kc p.1 !=kc k
def EU{ps:List (Value×Value)}{k:NY}(h:Nd ps k=true):∀p∈ps,p.1≠k:=λp hp e=>by
 have:=iP.1 h p hp;rw[e]at this;simp at this
def ve:List (Value×Value)->Bool
|[]=>true
|p::r=>Nd r p.1&&ve r
def jh:List (Value×Value)->Value->Option (Value×Value)
|[],_=>none
|p::r,k=>if kc p.1==kc k then some p else jh r k
def Bh:∀{ps:List (Value×Value)}{k v:NY},ve ps=true->jh ps k=some (k,v)->(∃p∈ps,p.1=k)/\∀p∈ps,p.1=k->p.2=v
|[],_,_,_,h=>by simp[jh]at h
|q::r,k,v,hn,h=>by
  simp only[ve,cR]at hn;simp only[jh]at h;split at h
  .simp only[oG]at h;subst h;refine⟨⟨(k,v),eP,rfl⟩,λp hp e=>?_⟩;rcases dh.1 hp with rfl|hp
   .rfl
   .exact absurd e (EU hn.1 p hp)
  .rename_i hne;obtain⟨⟨p,hp,e⟩,h2⟩:=Bh hn.2 h;refine⟨⟨p,by simp[hp],e⟩,λp' hp' e'=>?_⟩;rcases dh.1 hp' with rfl|hp'
   .exact absurd (by rw[e'];simp) hne
   .exact h2 p' hp' e'
def RI(ps:List (Value×Value)):Bool:=ps.all λp=>match p.1 with|.int .i64 n=>(Lit.int .i64 n).wf|_=>false
def BA{ps:List (Value×Value)}(h:RI ps=true):∀p∈ps,∃l,keyOf prog 3 p.1=some l:=λp hp=>by
 have:=iP.1 h p hp;obtain⟨k,v⟩:=p;simp only at this⊢;split at this
 .exact EY this
 .cases this
def US(ps:List (Value×Value)):Bool:=ps.all λp=>match p.1 with|.int .u8 n=>(Lit.int .u8 n).wf|_=>false
def Kc{ps:List (Value×Value)}(h:US ps=true):∀p∈ps,∃l,keyOf prog 5 p.1=some l:=λp hp=>by
 have:=iP.1 h p hp;obtain⟨k,v⟩:=p;simp only at this⊢;split at this
 .exact sL this
 .cases this
def E5{a:OA}{f:FuncId}:a.eval (.func f)=.func (.func f) #[] #[]:=rfl
def BP{a:OA}{v:NY}:a.eval (.const v)=v:=rfl
end Go.Proofs.YtkpbhdhkdonghaaGreat
