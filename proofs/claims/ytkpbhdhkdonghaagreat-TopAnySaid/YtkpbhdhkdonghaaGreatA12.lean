/-
  Part 12 of the proof.
-/
import Derived.Test.YtkpbhdhkdonghaaGreatProg
import Derived.DeepKeys5
import Derived.StillTailTactics
import Derived.WalkLawsBesides
import Derived.Test.YtkpbhdhkdonghaaGreatA04
set_option linter.all false
set_option maxHeartbeats 1000000
set_option maxRecDepth 100000
namespace Go.Proofs.YtkpbhdhkdonghaaGreat.Pol
open Go Tryz Go.RowKit
variable {m m' s s':Int} {base i n r:Nat} {P:Program} {e k:TypeId} {w w0:World}
theorem laidOut:laidOutB prog=true:=by kernel_rfl
theorem keyT:prog.keyType 207=true:=by kernel_rfl
theorem small:prog.types.size+2<=10000:=of_decide_eq_true (by kernel_rfl)
theorem A2k:WideMaps.KeyLaw prog 207:=deep_law_gate laidOut small (of_decide_eq_true (by kernel_rfl)) keyT (by rw [underlying207])
def key (s m:Int):Value:=.agg #[.int .u8 s,.int .u8 m]
theorem ts0:0 < prog.types.size:=of_decide_eq_true (by kernel_rfl)
theorem ts:∃ n,prog.types.size=n+1:=⟨prog.types.size - 1,by have:=ts0;omega⟩
theorem c44:prog.cellsOf 207=2:=by kernel_rfl
theorem c5:prog.cellsOf 5=1:=by kernel_rfl
theorem dP {f0 f1:Field} (hu:P.underlying k=some (.struct #[f0,f1])) (he:P.underlying e=some (.int .u8)) (h0:f0.type=e) (h1:f1.type=e) (o0:f0.offset=0) (o1:f1.offset=1) (n0:f0.name ≠ "_") (n1:f1.name ≠ "_")
  (hk:P.keyType k=true) (ck:P.cellsOf k=2) (ce:P.cellsOf e=1) (hn:P.types.size=n+1) (hs:(Lit.int .u8 s).wf=true) (hm:(Lit.int .u8 m).wf=true):∃ l,keyOf P k (key s m)=some l:=by
 have f:(Value.agg #[.int .u8 s,.int .u8 m]).formed P k=true:=by
  simp [Value.formed,hu,ck]
 simp [keyOf,hu,hk,f,hn,Program.keyLits,key,Value.cells,ck,ce,he,hs,hm,h0,h1,o0,o1,n0,n1]
theorem vC (hs:(Lit.int .u8 s).wf=true) (hm:(Lit.int .u8 m).wf=true):∃ l,keyOf prog 207 (key s m)=some l:=by
 obtain ⟨n,hn⟩:=ts;exact dP underlying207 underlying5 rfl rfl rfl rfl (by decide) (by decide) keyT c44 c5 hn hs hm
theorem key_inj (h:key s m=key s' m'):s=s'/\m=m':=by
 simpa [key] using h
def V (f:Nat):Value:=.func (.func f) #[] #[]
def WI (i:Nat):Int:=if i=3\/i=6\/i=8 then 1 else 2
def Xb (i:Nat):Int:=if i=3\/i=10 then 1 else if i=6\/i=12 then 2 else 3
def A1a (i:Nat):Value:=V (if i=3\/i=6 then 176 else if i=8 then 177 else if i=10 then 178 else if i=12 then 179 else 180)
def IX:N_:=[3,6,8,10,12,14]
theorem A7d:∀ i ∈ IX,∀ j ∈ IX,WI i=WI j->Xb i=Xb j->i=j:=by decide
theorem A1A:∀ i ∈ IX,(Lit.int .u8 (WI i)).wf=true/\(Lit.int .u8 (Xb i)).wf=true:=by decide
def Holds (w:World) (r:Nat) (rem:N_):Prop:=∃ es clock,w.heap[r]?=some (.map es clock) /\
 (∀ e ∈ es.toList,∃ i ∈ IX,i ∉ rem/\e.key=key (WI i) (Xb i)/\e.val=A1a i)/\(∀ i ∈ IX,i ∉ rem->∃ e ∈ es.toList,e.key=key (WI i) (Xb i))
theorem Holds.keyed {es:Array MapEntry} {rem:N_} (h:∀ e ∈ es.toList,∃ i ∈ IX,i ∉ rem/\e.key=key (WI i) (Xb i)/\e.val=A1a i):∀ e ∈ es.toList,∃ l,keyOf prog 207 e.key=some l:=by
 intro e he;obtain ⟨i,hi,_,hk,_⟩:=h e he;rw [hk];exact vC (A1A i hi).1 (A1A i hi).2
theorem Holds.made (w:World):Holds (w.alloc (.map #[] 0)) w.heap.size IX :=
 ⟨#[],0,by show (w.heap.push _)[w.heap.size]?=_;simp,fun e he=>by simp at he,fun i hi hn=>absurd hi hn⟩
theorem A56 {rem:N_} (hn:rem.Nodup) (hi:i ∈ rem) (hx:i ∈ IX) (h:Holds w r rem) (hb:Below base w0 w) (hr:base<=r) :
  ∃ w',(Instr.mapUpdate 204 (.map (some r)) (key (WI i) (Xb i)) (A1a i)).run prog w=.ok () w'/\Holds w' r (rem.erase i)/\Below base w0 w':=by
 obtain ⟨es,clock,he,h1,h2⟩:=h;obtain ⟨l,hl⟩:=vC (A1A i hx).1 (A1A i hx).2;have hlt:=(Array.getElem?_eq_some_iff.1 he).1;rcases A2k.find w hl es.toList (Holds.keyed h1) with ⟨f1,f2⟩|⟨j,e0,f1,f2,f3⟩
 ·refine ⟨ChangeMaps.setBlock w r (.map (es.push ⟨key (WI i) (Xb i),A1a i,clock⟩) (clock+1)),?_,⟨es.push ⟨key (WI i) (Xb i),A1a i,clock⟩,clock+1,?_,?_,?_⟩,?_⟩
  ·simp [Instr.mapUpdate,r_u underlying204,MapKept.run_getObj_map he,A2k.check w false hl,f1,MapKept.run_setObj_map _ he,Result.andThen,ChangeMaps.setBlock]
  ·simp [ChangeMaps.setBlock,hlt]
  ·intro e hm;simp only [Array.toList_push,List.mem_append,List.mem_singleton] at hm;rcases hm with hm|rfl
   ·obtain ⟨k,hk,hkr,hk2⟩:=h1 e hm;exact ⟨k,hk,fun hc=>hkr (List.mem_of_mem_erase hc),hk2⟩
   ·exact ⟨i,hx,fun hc=>by rw [hn.mem_erase_iff] at hc;exact hc.1 rfl,rfl,rfl⟩
  ·intro k hk hkr;by_cases hki:k=i
   ·subst hki;exact ⟨⟨key (WI k) (Xb k),A1a k,clock⟩,by simp,rfl⟩
   ·obtain ⟨e,hm,hke⟩:=h2 k hk (fun hc=>hkr (by rw [hn.mem_erase_iff];exact ⟨hki,hc⟩));exact ⟨e,by simp [hm],hke⟩
  ·refine ⟨hb.os,hb.tape,hb.output,?_,fun k hk=>?_⟩
   ·simpa [ChangeMaps.setBlock] using hb.size
   ·rw [<- hb.block k hk];simp only [ChangeMaps.setBlock];rw [Array.getElem?_setIfInBounds_ne (by omega)]
 ·exfalso;have hm0:e0 ∈ es.toList:=l_m f2;obtain ⟨k,hk,hkr,hk2,_⟩:=h1 e0 hm0;rw [f3] at hk2;obtain ⟨q1,q2⟩:=key_inj hk2;rw [A7d i hx k hk q1 q2] at hi;exact hkr hi
def plan (s m:Int):Option Nat:=if s=1 then (if m=1\/m=2 then some 176 else if m=3 then some 177 else none) else if s=2 then (if m=1 then some 178 else if m=2 then some 179 else if m=3 then some 180 else none) else none
theorem A6I:∀ i ∈ IX,∃ f,plan (WI i) (Xb i)=some f/\A1a i=V f:=by
 have:∀ i ∈ IX,∃ f ∈ [176,177,178,179,180],plan (WI i) (Xb i)=some f/\(if i=3\/i=6 then 176 else if i=8 then 177 else if i=10 then 178 else if i=12 then 179 else 180)=f:=by decide
 intro i hi;obtain ⟨f,_,h1,h2⟩:=this i hi;exact ⟨f,h1,by rw [A1a,h2]⟩
theorem A5N (h:∀ i ∈ IX,¬ (WI i=s/\Xb i=m)):plan s m=none:=by
 have a1:=h 3 (by decide);have a2:=h 6 (by decide);have a3:=h 8 (by decide);have a4:=h 10 (by decide);have a5:=h 12 (by decide);have a6:=h 14 (by decide);simp [WI,Xb] at a1 a2 a3 a4 a5 a6;unfold plan
 repeat' split
 all_goals first|rfl|omega
def found (o:Option Nat):Value:=match o with|some f=>.tuple #[V f,.bool true]|none=>.tuple #[.nilFunc,.bool false]
theorem A4D (h:Holds w r []) (hs:(Lit.int .u8 s).wf=true) (hm:(Lit.int .u8 m).wf=true) :
  (Instr.lookup 204 (.map (some r)) (key s m) true).run prog w=.ok (found (plan s m)) w:=by
 obtain ⟨es,clock,he,h1,h2⟩:=h;obtain ⟨l,hl⟩:=vC hs hm;have hz:(zeroValue 202).run prog w=.ok .nilFunc w:=by kernel_rfl
 rcases A2k.find w hl es.toList (Holds.keyed h1) with ⟨f1,f2⟩|⟨j,e0,f1,f2,f3⟩
 ·have hp:plan s m=none:=A5N fun i hi hc=>by
   obtain ⟨e,hme,hke⟩:=h2 i hi (by simp);exact f2 e hme (by rw [hke,hc.1,hc.2])
  rw [hp];simp [Instr.lookup,r_u underlying204,MapKept.run_getObj_map he,A2k.check w _ hl,f1,hz,Result.andThen,found]
 ·have hm0:e0 ∈ es.toList:=l_m f2;obtain ⟨k,hk,_,hk2,hk3⟩:=h1 e0 hm0;rw [f3] at hk2;obtain ⟨q1,q2⟩:=key_inj hk2;obtain ⟨f,hp,hv⟩:=A6I k hk;rw [<- q1,<- q2] at hp;rw [hp];simp [Instr.lookup,r_u underlying204,MapKept.run_getObj_map he,A2k.check w _ hl,f1,Result.andThen,found,hk3,hv]
end Go.Proofs.YtkpbhdhkdonghaaGreat.Pol

namespace Go.Proofs.YtkpbhdhkdonghaaGreat.Pol
open Go Tryz Go.RowKit
variable {a:Act} {i:Nat} {o:Oper} {x y z:Operand} {t:TypeId} {vx vy vz:Value} {w w':World} {S:World->Prop}
section
variable {P:Program} {ops:O_} {Q:Exit->P_}
theorem A7n {C:(World->Prop)->P_} {r:List (Nat × Bool)} {v:Value} (ho:ops.toList[i]?=some o) (hw:Region.wanted o (yielded ops a.tmps)=true)
  (hrun:∀ W,S W->(execOp a.eval o).run P W=.ok (.value v) W) (h:A3n P ops Q C r S (a.put o.dst v) w):A3n P ops Q C ((i,true)::r) S a w :=
 ⟨o,v,by rw [<- a_g];exact ho,.inl ⟨hw,hrun⟩,h⟩
theorem A5b {C:(World->Prop)->P_} {r:List (Nat × Bool)} {v:Value} (ho:ops.toList[i]?=some o) (hw:Region.wanted o (yielded ops a.tmps)=true)
  (hrun:(execOp a.eval o).run P w=.ok (.value v) w') (hS:S w') (h:A3n P ops Q C r S (a.put o.dst v) w'):A3n P ops Q C ((i,false)::r) S a w:=by
 have ho':ops[i]?=some o:=by rw [<- a_g];exact ho
 unfold A3n wpOp;simp only [ho',hw,if_true];refine .inl ?_;unfold Oper.wp;rw [hrun];exact ⟨S,fun _ h=>h,hS,h⟩
theorem A3e {K:P_} (ho:ops.toList[i]?=some o) (hw:Region.wanted o (yielded ops a.tmps)=true) (hd:o.dst=none)
  (hrun:(execOp a.eval o).run P w=.ok .skip w') (h:K a w'):wpOp P ops Q i K a w:=by
 have ho':ops[i]?=some o:=by rw [<- a_g];exact ho
 unfold wpOp;simp only [ho',hw,if_true];refine .inl ?_;unfold Oper.wp;rw [hrun];show K (a.put o.dst undef) w';rw [hd];exact h
theorem Zm (ho:o.op=.insert t x y z) (hx:a.eval x=vx) (hy:a.eval y=vy) (hz:a.eval z=vz) (hr:(Instr.mapUpdate t vx vy vz).run P w=.ok () w') :
  (execOp a.eval o).run P w=.ok .skip w':=by
 subst hx hy hz;unfold execOp;simp only [ho,s_b,hr,r_o,s_p]
theorem Xm (ho:o.op=.makeMap t none):(execOp a.eval o).run P w=.ok (.value (.map (some w.heap.size))) (w.alloc (.map #[] 0)):=by
 unfold execOp;simp only [ho,Option.map_none,s_b,run_makeMap,r_o,s_p]
end
theorem A3Y {P:Program} {ops:O_} {Q:Exit->P_} {r:List (Nat × Bool)} {v:Value} (ho:ops.toList[i]?=some o) (hw:Region.wanted o (yielded ops a.tmps)=true)
  (hrun:∀ W,S W->(execOp a.eval o).run P W=.ok (.value v) W) (h:Ej P ops Q r S (a.put o.dst v) w):Ej P ops Q ((i,true)::r) S a w :=
 NZ (by rw [<- a_g];exact ho) hw hrun h
def subs:N_->List N_
|[]=>[[]]
|x::l=>(subs l).map (x::·)++subs l
def Lst (rem:N_):Array Bool:=((List.range 17).map fun i=>!(rem.contains i || i == 15 || i == 16)).toArray
theorem A6G:∀ rem ∈ subs IX,rem.Nodup/\∀ i ∈ rem,i ∈ IX:=by decide +kernel
theorem A7o (w:World):Calls prog 135 #[] w fun e w'=>(∃ r,e=.returned (.map (some r))/\Holds w' r [])/\Below w.heap.size w w':=by
 go_enter func135,ntmps135
 go_wp2_with fail
 refine A3Q [(1,true),(2,true),(4,true),(5,true),(7,true),(9,true),(11,true),(13,true),(0,false)] (subs IX) Lst IX [(15,true),(16,true)] (fun _=>True) rfl (by kernel_rfl) rfl (by kernel_rfl) (by kernel_rfl) (by kernel_rfl) (by kernel_rfl) (fun _ _ d _ _ h=>by cases d<;>exact h) trivial ?_;refine A7n rfl rfl (fun W _=>by go_simp;rfl) ?_;simp only [Act.put,s3];refine A7n rfl rfl (fun W _=>by go_simp;rfl) ?_;simp only [Act.put,s3];refine A7n rfl rfl (fun W _=>by go_simp;rfl) ?_;simp only [Act.put,s3];refine A7n rfl rfl (fun W _=>by go_simp;rfl) ?_;simp only [Act.put,s3];refine A7n rfl rfl (fun W _=>by go_simp;rfl) ?_;simp only [Act.put,s3];refine A7n rfl rfl (fun W _=>by go_simp;rfl) ?_;simp only [Act.put,s3];refine A7n rfl rfl (fun W _=>by go_simp;rfl) ?_;simp only [Act.put,s3];refine A7n rfl rfl (fun W _=>by go_simp;rfl) ?_;simp only [Act.put,s3];refine A5b rfl rfl (Xm rfl) trivial ?_
 simp only [Act.put,s3];refine ⟨fun rem W=>Holds W w.heap.size rem/\Below w.heap.size w W,fun _ _ _=>trivial,⟨Holds.made _,((Below.refl _ w).drew.alloc (Nat.le_refl _) _)⟩,?_,?_⟩
 ·intro rem hrem i hi W hW;obtain ⟨hn,hx⟩:=A6G rem hrem;obtain ⟨W',hr,h1,h2⟩:=A56 hn hi (hx i hi) hW.1 hW.2 (Nat.le_refl _);have hix:=hx i hi;simp only [IX,List.mem_cons,List.not_mem_nil,or_false] at hix;rcases hix with rfl|rfl|rfl|rfl|rfl|rfl
  ·exact xcc
  ·exact xcc
  ·exact xcc
  ·exact xcc
  ·exact xcc
  ·exact xcc
 ·intro W hW;refine A3Y rfl rfl (fun W _=>by go_simp;rfl) ?_;simp only [Act.put,s3];refine A3Y rfl rfl (fun W _=>by go_simp;rfl) ?_;simp only [Act.put,List.setIfInBounds_toArray,List.set_cons_zero];refine IY ?_;go_simp
  go_wp2_with fail
  go_ret;exact ⟨⟨_,rfl,hW.1⟩,hW.2⟩
end Go.Proofs.YtkpbhdhkdonghaaGreat.Pol

namespace Go.Proofs.YtkpbhdhkdonghaaGreat.Pol
open Go Tryz Go.RowKit
variable {a:Act} {ops:O_} {Q:Exit->P_} {v0 v1 v2:Int} {rest:Q_} {ss:List Sl} {o:Oper} {x0 x1 x2:Operand} {rs:Rws} {w w0:World}
theorem A4t:∃ i,Gv prog 124 3 i (.int .i64 0) 8:=Gv.ex underlying124 (by kernel_rfl) rfl
abbrev J (l:I_):A_:=(vs .i64 l).toArray
theorem _root_.Go.Proofs.YtkpbhdhkdonghaaGreat.Own.lit (h:Own w0 w rs ss) (l:I_) (hl:l.length<=maxLen) :
  Own w0 (w.alloc (.cells (J l) 3)) rs ((.slice (some ⟨w.heap.size,0,none⟩) l.length l.length,3,vs .i64 l)::ss):=by
 refine h.fG ((Below.refl _ w).alloc (Nat.le_refl _) _) ?_;rw [Ai];have:=World.ownsRow_lit (base:=w.heap.size) (size:=1) (e:=3) w (J l) l.length (Nat.le_refl _) hl (by simp [J,Ai]);simpa [J] using this
theorem A5T (ho:o.op=.buildSlice 124 1 #[(0,x0)]) (h0:a.eval x0=.int .i64 v0) :
  (execOp a.eval o).run prog w=.ok (.value (.slice (some ⟨w.heap.size,0,none⟩) 1 1)) (w.alloc (.cells (J [v0]) 3)):=by
 unfold execOp;obtain ⟨i5,he⟩:=A4t;have hz:(zeroValue 3).run prog w=.ok (.int .i64 0) w:=by simp [zeroValue,typeInfo,he.info,he.zero]
 have hr:Array.range 1=#[0]:=by decide
 simp only [ho,Instr.buildSlice,s_b,r_u he.under,r_o,sizeOf,typeInfo,run_program,he.info,l_y,List.map_cons,List.map_nil,h0];exact xde
theorem A4f (hm:Own w0 w rs ss) (hgd:Region.wanted o (yielded ops a.tmps)=true)
  (ho:o.op=.buildSlice 124 1 #[(0,x0)]) (h0:a.eval x0=.int .i64 v0)
  (h:∀ w' g,Own w0 w' rs ((.slice (some ⟨g,0,none⟩) 1 1,3,vs .i64 [v0])::ss)->wpList prog ops Q rest (a.put o.dst (.slice (some ⟨g,0,none⟩) 1 1)) w'):wpList prog ops Q (o::rest) a w :=
 A8 hgd (A5T ho h0) (h _ _ (hm.lit [v0] (by simp [maxLen])))
theorem A5S (ho:o.op=.buildSlice 124 2 #[(0,x0),(1,x1)]) (h0:a.eval x0=.int .i64 v0) (h1:a.eval x1=.int .i64 v1) :
  (execOp a.eval o).run prog w=.ok (.value (.slice (some ⟨w.heap.size,0,none⟩) 2 2)) (w.alloc (.cells (J [v0,v1]) 3)):=by
 unfold execOp;obtain ⟨i5,he⟩:=A4t;have hz:(zeroValue 3).run prog w=.ok (.int .i64 0) w:=by simp [zeroValue,typeInfo,he.info,he.zero]
 have hr:Array.range 2=#[0,1]:=by decide
 simp only [ho,Instr.buildSlice,s_b,r_u he.under,r_o,sizeOf,typeInfo,run_program,he.info,l_y,List.map_cons,List.map_nil,h0,h1];exact xde
theorem A3h (hm:Own w0 w rs ss) (hgd:Region.wanted o (yielded ops a.tmps)=true)
  (ho:o.op=.buildSlice 124 2 #[(0,x0),(1,x1)]) (h0:a.eval x0=.int .i64 v0) (h1:a.eval x1=.int .i64 v1)
  (h:∀ w' g,Own w0 w' rs ((.slice (some ⟨g,0,none⟩) 2 2,3,vs .i64 [v0,v1])::ss)->wpList prog ops Q rest (a.put o.dst (.slice (some ⟨g,0,none⟩) 2 2)) w'):wpList prog ops Q (o::rest) a w :=
 A8 hgd (A5S ho h0 h1) (h _ _ (hm.lit [v0,v1] (by simp [maxLen])))
theorem A5R (ho:o.op=.buildSlice 124 3 #[(0,x0),(1,x1),(2,x2)]) (h0:a.eval x0=.int .i64 v0) (h1:a.eval x1=.int .i64 v1) (h2:a.eval x2=.int .i64 v2) :
  (execOp a.eval o).run prog w=.ok (.value (.slice (some ⟨w.heap.size,0,none⟩) 3 3)) (w.alloc (.cells (J [v0,v1,v2]) 3)):=by
 unfold execOp;obtain ⟨i5,he⟩:=A4t;have hz:(zeroValue 3).run prog w=.ok (.int .i64 0) w:=by simp [zeroValue,typeInfo,he.info,he.zero]
 have hr:Array.range 3=#[0,1,2]:=by decide
 simp only [ho,Instr.buildSlice,s_b,r_u he.under,r_o,sizeOf,typeInfo,run_program,he.info,l_y,List.map_cons,List.map_nil,h0,h1,h2];exact xde
theorem A3v (hm:Own w0 w rs ss) (hgd:Region.wanted o (yielded ops a.tmps)=true)
  (ho:o.op=.buildSlice 124 3 #[(0,x0),(1,x1),(2,x2)]) (h0:a.eval x0=.int .i64 v0) (h1:a.eval x1=.int .i64 v1) (h2:a.eval x2=.int .i64 v2)
  (h:∀ w' g,Own w0 w' rs ((.slice (some ⟨g,0,none⟩) 3 3,3,vs .i64 [v0,v1,v2])::ss)->wpList prog ops Q rest (a.put o.dst (.slice (some ⟨g,0,none⟩) 3 3)) w'):wpList prog ops Q (o::rest) a w :=
 A8 hgd (A5R ho h0 h1 h2) (h _ _ (hm.lit [v0,v1,v2] (by simp [maxLen])))
end Go.Proofs.YtkpbhdhkdonghaaGreat.Pol
