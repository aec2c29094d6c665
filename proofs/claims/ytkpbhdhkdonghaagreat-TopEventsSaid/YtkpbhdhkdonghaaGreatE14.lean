/-
  Part 14 of the proof.
-/
import Derived.Test.YtkpbhdhkdonghaaGreatProg
import Derived.DeepKeys5
import Derived.WideKeyElems
import Derived.StillTailTactics
import Derived.WalkLawsBesides
import Derived.Test.YtkpbhdhkdonghaaGreatE02
import Derived.Test.YtkpbhdhkdonghaaGreatE04
set_option linter.all false
namespace Go.Proofs.YtkpbhdhkdonghaaGreat.Pol
open Go Go.RowKit
variable {m s:Int} {n r:Nat} {P:Program} {e k:TypeId} {w w':World}
theorem laidOut:laidOutB Tryz.prog=true:=by kernel_rfl
theorem keyT:Tryz.prog.keyType 207=true:=by kernel_rfl
theorem small:Tryz.prog.types.size+2<=10000:=of_decide_eq_true (by kernel_rfl)
theorem A2k:WideMaps.KeyLaw Tryz.prog 207:=deep_law_gate laidOut small (of_decide_eq_true (by kernel_rfl)) keyT (by rw [Tryz.underlying207])
def key (s m:Int):Value:=.agg #[.int .u8 s,.int .u8 m]
theorem ts0:0 < Tryz.prog.types.size:=of_decide_eq_true (by kernel_rfl)
theorem ts:∃ n,Tryz.prog.types.size=n+1:=⟨Tryz.prog.types.size - 1,by have:=ts0;omega⟩
theorem c44:Tryz.prog.cellsOf 207=2:=by kernel_rfl
theorem c5:Tryz.prog.cellsOf 5=1:=by kernel_rfl
theorem dP {f0 f1:Field} (hu:P.underlying k=some (.struct #[f0,f1])) (he:P.underlying e=some (.int .u8)) (h0:f0.type=e) (h1:f1.type=e) (o0:f0.offset=0) (o1:f1.offset=1) (n0:f0.name ≠ "_") (n1:f1.name ≠ "_")
  (hk:P.keyType k=true) (ck:P.cellsOf k=2) (ce:P.cellsOf e=1) (hn:P.types.size=n+1) (hs:(Lit.int .u8 s).wf=true) (hm:(Lit.int .u8 m).wf=true):∃ l,keyOf P k (key s m)=some l:=by
 have f:(Value.agg #[.int .u8 s,.int .u8 m]).formed P k=true:=by
  simp [Value.formed,hu,ck]
 simp [keyOf,hu,hk,f,hn,Program.keyLits,key,Value.cells,ck,ce,he,hs,hm,h0,h1,o0,o1,n0,n1]
theorem vC (hs:(Lit.int .u8 s).wf=true) (hm:(Lit.int .u8 m).wf=true):∃ l,keyOf Tryz.prog 207 (key s m)=some l:=by
 obtain ⟨n,hn⟩:=ts
 exact dP Tryz.underlying207 Tryz.underlying5 rfl rfl rfl rfl (by decide) (by decide) keyT c44 c5 hn hs hm
def V (f:Nat):Value:=.func (.func f) #[] #[]
def WI (i:Nat):Int:=if i=3\/i=6\/i=8 then 1 else 2
def Xb (i:Nat):Int:=if i=3\/i=10 then 1 else if i=6\/i=12 then 2 else 3
def A1a (i:Nat):Value:=V (if i=3\/i=6 then 176 else if i=8 then 177 else if i=10 then 178 else if i=12 then 179 else 180)
def IX:List Nat:=[3,6,8,10,12,14]
theorem A1A:∀ i ∈ IX,(Lit.int .u8 (WI i)).wf=true/\(Lit.int .u8 (Xb i)).wf=true:=by decide
def Holds (w:World) (r:Nat) (rem:List Nat):Prop:=∃ es clock,w.heap[r]?=some (.map es clock) /\
 (∀ e ∈ es.toList,∃ i ∈ IX,i ∉ rem/\e.key=key (WI i) (Xb i)/\e.val=A1a i)/\(∀ i ∈ IX,i ∉ rem->∃ e ∈ es.toList,e.key=key (WI i) (Xb i))
theorem Holds.keyed {es:Array MapEntry} {rem:List Nat} (h:∀ e ∈ es.toList,∃ i ∈ IX,i ∉ rem/\e.key=key (WI i) (Xb i)/\e.val=A1a i):∀ e ∈ es.toList,∃ l,keyOf Tryz.prog 207 e.key=some l:=by
 intro e he
 obtain ⟨i,hi,_,hk,_⟩:=h e he
 rw [hk]
 exact vC (A1A i hi).1 (A1A i hi).2
theorem Holds.lt {rem:List Nat} (h:Holds w r rem):r < w.heap.size:=by
 obtain ⟨es,clock,hb,_⟩:=h
 exact (Array.getElem?_eq_some_iff.1 hb).1
theorem Holds.below {rem:List Nat} (h:Holds w r rem) (hb:Below w.heap.size w w'):Holds w' r rem:=by
 have hl:=h.lt
 obtain ⟨es,clock,he,h1,h2⟩:=h
 exact ⟨es,clock,(hb.block r hl).trans he,h1,h2⟩
theorem Holds.made (w:World):Holds (w.alloc (.map #[] 0)) w.heap.size IX :=
 ⟨#[],0,by show (w.heap.push _)[w.heap.size]?=_;simp,fun e he=>by simp at he,fun i hi hn=>absurd hi hn⟩
def found (o:Option Nat):Value:=match o with|some f=>.tuple #[V f,.bool true]|none=>.tuple #[.nilFunc,.bool false]
end Go.Proofs.YtkpbhdhkdonghaaGreat.Pol

namespace Go.Proofs.YtkpbhdhkdonghaaGreat.Pol
open Go Go.RowKit
variable {a:Act} {o:Oper} {x y z:Operand} {t:TypeId} {vx vy vz:Value} {w w':World}
section
variable {P:Program} {ops:Array Oper} {Q:Exit->Act->World->Prop}
theorem Zm (ho:o.op=.insert t x y z) (hx:a.eval x=vx) (hy:a.eval y=vy) (hz:a.eval z=vz) (hr:(Instr.mapUpdate t vx vy vz).run P w=.ok () w') :
  (execOp a.eval o).run P w=.ok .skip w':=by
 subst hx hy hz
 unfold execOp
 simp only [ho,Sem.run_bind,hr,Result.andThen_ok,Sem.run_pure]
theorem Xm (ho:o.op=.makeMap t none):(execOp a.eval o).run P w=.ok (.value (.map (some w.heap.size))) (w.alloc (.map #[] 0)):=by
 unfold execOp
 simp only [ho,Option.map_none,Sem.run_bind,run_makeMap,Result.andThen_ok,Sem.run_pure]
end
end Go.Proofs.YtkpbhdhkdonghaaGreat.Pol
