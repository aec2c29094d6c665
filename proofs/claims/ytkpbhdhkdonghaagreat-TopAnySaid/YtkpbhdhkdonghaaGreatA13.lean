/-
  Part 13 of the proof.
-/
import Derived.Test.YtkpbhdhkdonghaaGreatA10
import Derived.Test.YtkpbhdhkdonghaaGreatA12
set_option linter.all false
namespace Go.Proofs.YtkpbhdhkdonghaaGreat
open Go Tryz Go.RowKit
variable {xs ys:L_} {base kt mt r vt:Nat} {x y z:Operand} {t:TypeId} {k:Value} {w':World}
abbrev IK (r:Nat) (xs:L_):Sl:=(.slice none 0 0,Ey+r,xs)
theorem YM (r:Nat) (xs:L_):¬ (IK r xs).2.1 < Ey:=by simp [IK,Ey]
theorem SI (r:Nat) (xs:L_):(IK r xs).2.1 - Ey=r:=by simp [IK]
theorem Jw.map {w:World} (h:Jw w base (IK r xs)):base<=r/\N9 w r xs:=by
 obtain ⟨h1,h2,_⟩:=h.mp (YM r xs);rw [SI] at h1 h2;exact ⟨h1,h2⟩
theorem Jw.of_map {w:World} (h1:base<=r) (h2:N9 w r xs):Jw w base (IK r xs) :=
 ⟨fun h=>absurd h (YM r xs),fun _=>⟨by rw [SI];exact h1,by rw [SI];exact h2,rfl⟩⟩
section
variable {w0 w:World} {rs:Rws} {ss:List Sl}
theorem Own.uz (h:Own w0 w rs ss):Own w0 (w.alloc (.map #[] 0)) rs (IK w.heap.size []::ss)/\∀ s ∈ ss,s.2.1 ≠ Ey+w.heap.size:=by
 have h':=h.PV (.map #[] 0);refine ⟨⟨h'.mem,fun s hs=>?_,by simpa [List.filterMap_cons,Value.ownBlock] using h'.apart⟩,fun s hs e=>?_⟩
 ·rcases List.mem_cons.1 hs with rfl|hs
  ·exact Jw.of_map h.below.size ⟨#[],0,by show (w.heap.push _)[w.heap.size]?=_;simp,fun e he=>by simp at he,fun p hp=>by simp [BN] at hp,by simp [BN]⟩
  ·exact h'.sl s hs
 ·have hS:=h.sl s hs;have hq:¬ s.2.1 < Ey:=by rw [e];simp
  have:=(hS.mp hq).2.1.lt;rw [e] at this;simp at this
theorem Own.A1Z (h:Own w0 w rs (IK r xs::ss)) (hd:∀ s ∈ ss,s.2.1 ≠ Ey+r) (hg:w.grownBy w' (some r)) (hM:N9 w' r ys):Own w0 w' rs (IK r ys::ss):=by
 obtain ⟨hb,hm⟩:=(h.sl (IK r xs) List.mem_cons_self).map
 have hcell:∀ k cs t f,w.heap[k]?=some (.cells cs t f)->some k ≠ some r:=fun k cs t f hk e=>by
  cases e;obtain ⟨es,c,h1,_⟩:=hm;rw [h1] at hk;cases hk
 refine ⟨h.mem.grown hg (fun k e=>by cases e;exact hb) (fun k e hk=>?_),fun s hs=>?_,by simpa [List.filterMap_cons,Value.ownBlock] using h.apart⟩
 ·obtain ⟨p,hp,e2⟩:=List.mem_map.1 hk;obtain ⟨t,ht⟩:=h.mem.rows p hp;rw [e2] at ht;exact hcell k _ _ _ ht e.symm
 ·rcases List.mem_cons.1 hs with rfl|hs
  ·exact Jw.of_map hb hM
  ·have hS:=h.sl s (by simp [hs]);refine ⟨fun hq=>(hS.sl hq).kept hg ?_,fun hq=>?_⟩
   ·cases hk:s.1.ownBlock with
   |none=>exact .inl rfl
   |some g =>
     obtain ⟨cs,t,f,hgb⟩:=hS.cells g hk;exact .inr (hcell g _ _ _ hgb)
   ·obtain ⟨h1,h2,h3⟩:=hS.mp hq;refine ⟨h1,h2.block (hg.block _ h2.lt fun e=>?_),h3⟩;have e2:s.2.1 - Ey=r:=Option.some.inj e;exact hd s hs (by rw [<- e2];exact (Nat.add_sub_cancel' (Nat.le_of_not_lt hq)).symm)
theorem Y7 {v:Value} (hu:prog.underlying mt=some (.map kt vt)) (kl:Maps.Keyed prog kt) (h:Own w0 w rs (IK r xs::ss)) (hd:∀ s ∈ ss,s.2.1 ≠ Ey+r)
  (hk:∃ l,keyOf prog kt k=some l) (hks:∀ p ∈ BN xs,∃ l,keyOf prog kt p.1=some l) (hn:∀ p ∈ BN xs,p.1 ≠ k) :
  ∃ w',(Instr.mapUpdate mt (.map (some r)) k v).run prog w=.ok () w'/\Own w0 w' rs (IK r (k::v::xs)::ss):=by
 obtain ⟨hb,es,clock,he,h1,h2,h3⟩:=(h.sl (IK r xs) List.mem_cons_self).map;obtain ⟨l,hl⟩:=hk;have hlt:=(Array.getElem?_eq_some_iff.1 he).1;rcases kl.find w hl es.toList (fun e hm=>hks (e.key,e.val) (h1 e hm)) with ⟨f1,f2⟩|⟨j,e0,f1,f2,f3⟩
 ·refine ⟨ChangeMaps.setBlock w r (.map (es.push ⟨k,v,clock⟩) (clock+1)),?_,h.A1Z hd ⟨rfl,rfl,rfl,by simp [ChangeMaps.setBlock],fun q _ hqr=>?_⟩ ⟨es.push ⟨k,v,clock⟩,clock+1,?_,?_,?_,by simp [BN,h3]⟩⟩
  ·simp [Instr.mapUpdate,r_u hu,MapKept.run_getObj_map he,kl.check w false hl,f1,MapKept.run_setObj_map _ he,Result.andThen,ChangeMaps.setBlock]
  ·simp only [ChangeMaps.setBlock];rw [Array.getElem?_setIfInBounds_ne (fun e=>hqr (by rw [e]))]
  ·simp [ChangeMaps.setBlock,hlt]
  ·intro e hm;simp only [Array.toList_push,List.mem_append,List.mem_singleton] at hm;rcases hm with hm|rfl
   ·exact List.mem_cons_of_mem _ (h1 e hm)
   ·simp [BN]
  ·intro p hp;simp only [BN] at hp;rcases List.mem_cons.1 hp with rfl|hp
   ·exact ⟨⟨k,v,clock⟩,by simp,rfl⟩
   ·obtain ⟨e,hm,hke⟩:=h2 p hp;exact ⟨e,by simp [hm],hke⟩
 ·exact absurd f3 (hn _ (h1 e0 (l_m f2)))
theorem lF {v:Value} (hu:prog.underlying mt=some (.map kt vt)) (kl:Maps.Keyed prog kt) (hM:N9 w r xs)
  (hk:∃ l,keyOf prog kt k=some l) (hks:∀ p ∈ BN xs,∃ l,keyOf prog kt p.1=some l) (hin:∃ p ∈ BN xs,p.1=k) (hv:∀ p ∈ BN xs,p.1=k->p.2=v) :
  (Instr.lookup mt (.map (some r)) k false).run prog w=.ok v w:=by
 obtain ⟨es,clock,he,h1,h2,_⟩:=hM;obtain ⟨l,hl⟩:=hk;rcases kl.find w hl es.toList (fun e hm=>hks (e.key,e.val) (h1 e hm)) with ⟨f1,f2⟩|⟨j,e0,f1,f2,f3⟩
 ·obtain ⟨p,hp,rfl⟩:=hin;obtain ⟨e,hme,hke⟩:=h2 p hp;exact absurd hke (f2 e hme)
 ·have hv':=hv _ (h1 e0 (l_m f2)) f3;simp only at hv';simp [Instr.lookup,r_u hu,MapKept.run_getObj_map he,kl.check w _ hl,f1,Result.andThen,hv']
variable {o:Oper} {a:Act} {K:Value->World->Prop}
theorem BD (hm:Own w0 w rs ss) (ho:o.op=.makeMap t none) (h:∀ w' r,Own w0 w' rs (IK r []::ss)->(∀ s ∈ ss,s.2.1 ≠ Ey+r)->K (.map (some r)) w'):Eff prog o a w K :=
 Eff.val (Pol.Xm ho) (h _ _ hm.uz.1 hm.uz.2)
theorem Bj {v:Value} (hm:Own w0 w rs (IK r xs::ss)) (hd:∀ s ∈ ss,s.2.1 ≠ Ey+r) (ho:o.op=.insert mt x y z) (hx:a.eval x=.map (some r)) (hy:a.eval y=k) (hz:a.eval z=v) (hu:prog.underlying mt=some (.map kt vt)) (kl:Maps.Keyed prog kt)
  (hk:∃ l,keyOf prog kt k=some l) (hks:∀ p ∈ BN xs,∃ l,keyOf prog kt p.1=some l) (hn:∀ p ∈ BN xs,p.1 ≠ k) (h:∀ w',Own w0 w' rs (IK r (k::v::xs)::ss)->K undef w'):Eff prog o a w K:=by
 obtain ⟨w',hr,h2⟩:=Y7 (v:=v) hu kl hm hd hk hks hn;exact Eff.skip (Pol.Zm ho hx hy hz hr) (h _ h2)
theorem Ez {v:Value} (i:Nat) (hm:Own w0 w rs ss) (ho:o.op=.lookup mt x y false) (hx:a.eval x=.map (some r)) (hy:a.eval y=k) (hi:ss[i]?=some (IK r xs)) (hu:prog.underlying mt=some (.map kt vt)) (kl:Maps.Keyed prog kt)
  (hk:∃ l,keyOf prog kt k=some l) (hks:∀ p ∈ BN xs,∃ l,keyOf prog kt p.1=some l) (hin:∃ p ∈ BN xs,p.1=k) (hv:∀ p ∈ BN xs,p.1=k->p.2=v):(execOp a.eval o).run prog w=.ok (.value v) w:=by
 have hM:=((hm.sl _ (l_m hi)).map).2;unfold execOp;simp only [ho,hx,hy,s_b,lF hu kl hM hk hks hin hv,r_o,s_p]
end
variable {m n s:Int} {P:Program} {e k:TypeId}
theorem kd3:Maps.Keyed prog 3:=Maps.int_keyed underlying3
theorem kd5:Maps.Keyed prog 5:=Maps.int_keyed underlying5
theorem GL:Maps.Keyed prog 134:=Maps.Keyed.of_law (deep_law_gate Pol.laidOut Pol.small (of_decide_eq_true (by kernel_rfl)) (by kernel_rfl) (by rw [underlying134]))
theorem kd241:Maps.Keyed prog 241:=Maps.Keyed.of_law (deep_law_gate Pol.laidOut Pol.small (of_decide_eq_true (by kernel_rfl)) (by kernel_rfl) (by rw [underlying241]))
theorem EY (h:(Lit.int .i64 n).wf=true):∃ l,keyOf prog 3 (.int .i64 n)=some l:=⟨_,Maps.keyOf_int_mk underlying3 h⟩
theorem key5 (h:(Lit.int .u8 n).wf=true):∃ l,keyOf prog 5 (.int .u8 n)=some l:=⟨_,Maps.keyOf_int_mk underlying5 h⟩
theorem vH {f0:Field} (hu:P.underlying k=some (.struct #[f0])) (he:P.underlying e=some (.int .i64)) (h0:f0.type=e) (o0:f0.offset=0) (n0:f0.name ≠ "_")
  (hk:P.keyType k=true) (ck:P.cellsOf k=1) (ce:P.cellsOf e=1) {n:Nat} (hn:P.types.size=n+1) (hs:(Lit.int .i64 s).wf=true):∃ l,keyOf P k (.agg #[.int .i64 s])=some l:=by
 have f:(Value.agg #[.int .i64 s]).formed P k=true:=by
  simp [Value.formed,hu,ck]
 simp [keyOf,hu,hk,f,hn,Program.keyLits,Value.cells,ck,ce,he,hs,h0,o0,n0]
theorem vI (hs:(Lit.int .i64 s).wf=true):∃ l,keyOf prog 134 (.agg #[.int .i64 s])=some l:=by
 obtain ⟨n,hn⟩:=Pol.ts;exact vH underlying134 underlying3 rfl rfl (by decide) (by kernel_rfl) (by kernel_rfl) (by kernel_rfl) hn hs
theorem vG {f0 f1:Field} (hu:P.underlying k=some (.struct #[f0,f1])) (he:P.underlying e=some (.int .i64)) (h0:f0.type=e) (h1:f1.type=e) (o0:f0.offset=0) (o1:f1.offset=1) (n0:f0.name ≠ "_") (n1:f1.name ≠ "_")
  (hk:P.keyType k=true) (ck:P.cellsOf k=2) (ce:P.cellsOf e=1) {n:Nat} (hn:P.types.size=n+1) (hs:(Lit.int .i64 s).wf=true) (hm:(Lit.int .i64 m).wf=true):∃ l,keyOf P k (.agg #[.int .i64 s,.int .i64 m])=some l:=by
 have f:(Value.agg #[.int .i64 s,.int .i64 m]).formed P k=true:=by
  simp [Value.formed,hu,ck]
 simp [keyOf,hu,hk,f,hn,Program.keyLits,Value.cells,ck,ce,he,hs,hm,h0,h1,o0,o1,n0,n1]
theorem A2l (hs:(Lit.int .i64 s).wf=true) (hm:(Lit.int .i64 m).wf=true):∃ l,keyOf prog 241 (.agg #[.int .i64 s,.int .i64 m])=some l:=by
 obtain ⟨n,hn⟩:=Pol.ts;exact vG underlying241 underlying3 rfl rfl rfl rfl (by decide) (by decide) (by kernel_rfl) (by kernel_rfl) (by kernel_rfl) hn hs hm
def kc:Value->Option Int
|.int _ n=>some n
|.agg #[.int _ n]=>some n
|_=>none
def neK (ps:List (Value × Value)) (k:Value):Bool:=ps.all fun p=>(kc p.1).isSome && kc p.1 != kc k
theorem EU {ps:List (Value × Value)} {k:Value} (h:neK ps k=true):∀ p ∈ ps,p.1 ≠ k:=fun p hp e=>by
 have:=List.all_eq_true.1 h p hp;rw [e] at this;simp at this
def ndK:List (Value × Value)->Bool
|[]=>true
|p::r=>neK r p.1 && ndK r
def jh:List (Value × Value)->Value->Option (Value × Value)
|[],_=>none
|p::r,k=>if kc p.1 == kc k then some p else jh r k
theorem Bh:∀ {ps:List (Value × Value)} {k v:Value},ndK ps=true->jh ps k=some (k,v)->(∃ p ∈ ps,p.1=k)/\∀ p ∈ ps,p.1=k->p.2=v
|[],_,_,_,h=>by simp [jh] at h
|q::r,k,v,hn,h=>by
  simp only [ndK,b_t] at hn;simp only [jh] at h;split at h
  ·simp only [Option.some.injEq] at h;subst h;refine ⟨⟨(k,v),List.mem_cons_self,rfl⟩,fun p hp e=>?_⟩;rcases List.mem_cons.1 hp with rfl|hp
   ·rfl
   ·exact absurd e (EU hn.1 p hp)
  ·rename_i hne;obtain ⟨⟨p,hp,e⟩,h2⟩:=Bh hn.2 h;refine ⟨⟨p,by simp [hp],e⟩,fun p' hp' e'=>?_⟩;rcases List.mem_cons.1 hp' with rfl|hp'
   ·exact absurd (by rw [e'];simp) hne
   ·exact h2 p' hp' e'
def all3 (ps:List (Value × Value)):Bool:=ps.all fun p=>match p.1 with|.int .i64 n=>(Lit.int .i64 n).wf|_=>false
theorem BA {ps:List (Value × Value)} (h:all3 ps=true):∀ p ∈ ps,∃ l,keyOf prog 3 p.1=some l:=fun p hp=>by
 have:=List.all_eq_true.1 h p hp;obtain ⟨k,v⟩:=p;simp only at this ⊢;split at this
 ·exact EY this
 ·cases this
theorem E5 {a:Act} {f:FuncId}:a.eval (.func f)=.func (.func f) #[] #[]:=rfl
theorem BP {a:Act} {v:Value}:a.eval (.const v)=v:=rfl
end Go.Proofs.YtkpbhdhkdonghaaGreat
