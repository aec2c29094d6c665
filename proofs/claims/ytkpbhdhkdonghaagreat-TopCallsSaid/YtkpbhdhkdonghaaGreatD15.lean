/-
  Part 15 of the proof.
-/
import Derived.Test.YtkpbhdhkdonghaaGreatD04
import Derived.Test.YtkpbhdhkdonghaaGreatD10
import Derived.Test.YtkpbhdhkdonghaaGreatD11
import Derived.Test.YtkpbhdhkdonghaaGreatD12
import Derived.Test.YtkpbhdhkdonghaaGreatD14
set_option linter.all false
namespace Go.Proofs.YtkpbhdhkdonghaaGreat
open Go Go.RowKit
variable {L:Array Bool} {g gp i j r:Nat} {pr:Value}
def slot (L:Array Bool) (k:Nat) (v:Value):Value:=if L.getD k false=true then v else undef
theorem slot_ne {v:Value} (h:i ≠ j):slot (L.setIfInBounds i true) j v=slot L j v:=by rw [slot,slot,getD_set_ne false h]
theorem BI {v:Value} (h:i < L.size):slot (L.setIfInBounds i true) i v=v:=by rw [slot,ED h,if_pos rfl]
theorem Au {v:Value} (h:L.getD i false=true):slot L i v=v:=by rw [slot,if_pos h]
def SA (gp g r:Nat) (pr:Value) (L:Array Bool):Act:={ tmps:=#[.pointer (some ⟨gp,0,none⟩),pr,undef,undef,.pointer (some ⟨g,0,none⟩),slot L 34 (.map (some r)),undef,undef,.pointer (some ⟨gp,0,none⟩),.bool false,undef,slot L 0 (.map (some r)),slot L 1 (.agg (PT 1)),slot L 2 (.pointer (some ⟨gp,0,none⟩)),slot L 3 (.func (.func 78) #[.pointer (some ⟨gp,0,none⟩)] #[]),slot L 5 (.agg (PT 2)),slot L 6 (.pointer (some ⟨gp,0,none⟩)),slot L 7 (.func (.func 80) #[.pointer (some ⟨gp,0,none⟩)] #[]),slot L 9 (.agg (PT 3)),slot L 10 (.pointer (some ⟨gp,0,none⟩)),slot L 11 (.func (.func 82) #[.pointer (some ⟨gp,0,none⟩)] #[]),slot L 13 (.agg (PT 4)),slot L 14 (.pointer (some ⟨gp,0,none⟩)),slot L 15 (.func (.func 84) #[.pointer (some ⟨gp,0,none⟩)] #[]),slot L 17 (.agg (PT 5)),slot L 18 (.pointer (some ⟨gp,0,none⟩)),slot L 19 (.func (.func 86) #[.pointer (some ⟨gp,0,none⟩)] #[]),slot L 21 (.agg (PT 6)),slot L 22 (.pointer (some ⟨gp,0,none⟩)),slot L 23 (.func (.func 88) #[.pointer (some ⟨gp,0,none⟩)] #[]),slot L 25 (.agg (PT 7)),slot L 26 (.pointer (some ⟨gp,0,none⟩)),slot L 27 (.func (.func 90) #[.pointer (some ⟨gp,0,none⟩)] #[]),slot L 29 (.agg (PT 8)),slot L 30 (.pointer (some ⟨gp,0,none⟩)),slot L 31 (.func (.func 92) #[.pointer (some ⟨gp,0,none⟩)] #[]),slot L 33 (.map (some r)),undef,undef,undef,undef,undef,undef,undef,undef,undef,undef,undef,undef,undef,undef,undef,undef,undef,undef,undef,undef,undef,undef,undef,undef,undef,undef,undef,undef,undef,undef,undef,undef],defers:=[] }
theorem yG (h:0 < L.size):(SA gp g r pr L).put (some 11) (.map (some r))=SA gp g r pr (L.setIfInBounds 0 true):=by
 simp [SA,Act.put,BI h,slot_ne]
theorem yF (h:1 < L.size):(SA gp g r pr L).put (some 12) (.agg (PT 1))=SA gp g r pr (L.setIfInBounds 1 true):=by
 simp [SA,Act.put,BI h,slot_ne]
theorem yE (h:2 < L.size):(SA gp g r pr L).put (some 13) (.pointer (some ⟨gp,0,none⟩))=SA gp g r pr (L.setIfInBounds 2 true):=by
 simp [SA,Act.put,BI h,slot_ne]
theorem yD (h:3 < L.size):(SA gp g r pr L).put (some 14) (.func (.func 78) #[.pointer (some ⟨gp,0,none⟩)] #[])=SA gp g r pr (L.setIfInBounds 3 true):=by
 simp [SA,Act.put,BI h,slot_ne]
theorem yC (h:5 < L.size):(SA gp g r pr L).put (some 15) (.agg (PT 2))=SA gp g r pr (L.setIfInBounds 5 true):=by
 simp [SA,Act.put,BI h,slot_ne]
theorem yB (h:6 < L.size):(SA gp g r pr L).put (some 16) (.pointer (some ⟨gp,0,none⟩))=SA gp g r pr (L.setIfInBounds 6 true):=by
 simp [SA,Act.put,BI h,slot_ne]
theorem yA (h:7 < L.size):(SA gp g r pr L).put (some 17) (.func (.func 80) #[.pointer (some ⟨gp,0,none⟩)] #[])=SA gp g r pr (L.setIfInBounds 7 true):=by
 simp [SA,Act.put,BI h,slot_ne]
theorem yx (h:9 < L.size):(SA gp g r pr L).put (some 18) (.agg (PT 3))=SA gp g r pr (L.setIfInBounds 9 true):=by
 simp [SA,Act.put,BI h,slot_ne]
theorem pO (h:10 < L.size):(SA gp g r pr L).put (some 19) (.pointer (some ⟨gp,0,none⟩))=SA gp g r pr (L.setIfInBounds 10 true):=by
 simp [SA,Act.put,BI h,slot_ne]
theorem pK (h:11 < L.size):(SA gp g r pr L).put (some 20) (.func (.func 82) #[.pointer (some ⟨gp,0,none⟩)] #[])=SA gp g r pr (L.setIfInBounds 11 true):=by
 simp [SA,Act.put,BI h,slot_ne]
theorem pJ (h:13 < L.size):(SA gp g r pr L).put (some 21) (.agg (PT 4))=SA gp g r pr (L.setIfInBounds 13 true):=by
 simp [SA,Act.put,BI h,slot_ne]
theorem pI (h:14 < L.size):(SA gp g r pr L).put (some 22) (.pointer (some ⟨gp,0,none⟩))=SA gp g r pr (L.setIfInBounds 14 true):=by
 simp [SA,Act.put,BI h,slot_ne]
theorem pG (h:15 < L.size):(SA gp g r pr L).put (some 23) (.func (.func 84) #[.pointer (some ⟨gp,0,none⟩)] #[])=SA gp g r pr (L.setIfInBounds 15 true):=by
 simp [SA,Act.put,BI h,slot_ne]
theorem pF (h:17 < L.size):(SA gp g r pr L).put (some 24) (.agg (PT 5))=SA gp g r pr (L.setIfInBounds 17 true):=by
 simp [SA,Act.put,BI h,slot_ne]
theorem pz (h:18 < L.size):(SA gp g r pr L).put (some 25) (.pointer (some ⟨gp,0,none⟩))=SA gp g r pr (L.setIfInBounds 18 true):=by
 simp [SA,Act.put,BI h,slot_ne]
theorem A7d (h:19 < L.size):(SA gp g r pr L).put (some 26) (.func (.func 86) #[.pointer (some ⟨gp,0,none⟩)] #[])=SA gp g r pr (L.setIfInBounds 19 true):=by
 simp [SA,Act.put,BI h,slot_ne]
theorem oZ (h:21 < L.size):(SA gp g r pr L).put (some 27) (.agg (PT 6))=SA gp g r pr (L.setIfInBounds 21 true):=by
 simp [SA,Act.put,BI h,slot_ne]
theorem oW (h:22 < L.size):(SA gp g r pr L).put (some 28) (.pointer (some ⟨gp,0,none⟩))=SA gp g r pr (L.setIfInBounds 22 true):=by
 simp [SA,Act.put,BI h,slot_ne]
theorem oV (h:23 < L.size):(SA gp g r pr L).put (some 29) (.func (.func 88) #[.pointer (some ⟨gp,0,none⟩)] #[])=SA gp g r pr (L.setIfInBounds 23 true):=by
 simp [SA,Act.put,BI h,slot_ne]
theorem oU (h:25 < L.size):(SA gp g r pr L).put (some 30) (.agg (PT 7))=SA gp g r pr (L.setIfInBounds 25 true):=by
 simp [SA,Act.put,BI h,slot_ne]
theorem oQ (h:26 < L.size):(SA gp g r pr L).put (some 31) (.pointer (some ⟨gp,0,none⟩))=SA gp g r pr (L.setIfInBounds 26 true):=by
 simp [SA,Act.put,BI h,slot_ne]
theorem oP (h:27 < L.size):(SA gp g r pr L).put (some 32) (.func (.func 90) #[.pointer (some ⟨gp,0,none⟩)] #[])=SA gp g r pr (L.setIfInBounds 27 true):=by
 simp [SA,Act.put,BI h,slot_ne]
theorem oO (h:29 < L.size):(SA gp g r pr L).put (some 33) (.agg (PT 8))=SA gp g r pr (L.setIfInBounds 29 true):=by
 simp [SA,Act.put,BI h,slot_ne]
theorem oN (h:30 < L.size):(SA gp g r pr L).put (some 34) (.pointer (some ⟨gp,0,none⟩))=SA gp g r pr (L.setIfInBounds 30 true):=by
 simp [SA,Act.put,BI h,slot_ne]
theorem oM (h:31 < L.size):(SA gp g r pr L).put (some 35) (.func (.func 92) #[.pointer (some ⟨gp,0,none⟩)] #[])=SA gp g r pr (L.setIfInBounds 31 true):=by
 simp [SA,Act.put,BI h,slot_ne]
theorem oL (h:33 < L.size):(SA gp g r pr L).put (some 36) (.map (some r))=SA gp g r pr (L.setIfInBounds 33 true):=by
 simp [SA,Act.put,BI h,slot_ne]
theorem oK (h:34 < L.size):(SA gp g r pr L).put (some 5) (.map (some r))=SA gp g r pr (L.setIfInBounds 34 true):=by
 simp [SA,Act.put,BI h,slot_ne]
theorem yI:SA gp g r pr L=SA gp g r pr (L.setIfInBounds 4 true):=by
 simp [SA,slot_ne]
theorem yH:SA gp g r pr L=SA gp g r pr (L.setIfInBounds 8 true):=by
 simp [SA,slot_ne]
theorem pY:SA gp g r pr L=SA gp g r pr (L.setIfInBounds 12 true):=by
 simp [SA,slot_ne]
theorem pX:SA gp g r pr L=SA gp g r pr (L.setIfInBounds 16 true):=by
 simp [SA,slot_ne]
theorem pW:SA gp g r pr L=SA gp g r pr (L.setIfInBounds 20 true):=by
 simp [SA,slot_ne]
theorem pV:SA gp g r pr L=SA gp g r pr (L.setIfInBounds 24 true):=by
 simp [SA,slot_ne]
theorem pU:SA gp g r pr L=SA gp g r pr (L.setIfInBounds 28 true):=by
 simp [SA,slot_ne]
theorem pR:SA gp g r pr L=SA gp g r pr (L.setIfInBounds 32 true):=by
 simp [SA,slot_ne]
open Go Tryz Go.RowKit
variable {g i j k n r':Nat} {pr:Value}
def Bl (gp k:Nat):Value × Value:=(.agg (PT (k+1)),.func (.func (78+2 * k)) #[.pointer (some ⟨gp,0,none⟩)] #[])
structure I5 (w0:World) (rows:Rws) (ss:List Sl) (gp r:Nat) (xs:L_) (L:Array Bool) (w:World):Prop where
 on:L.getD 0 false=true->Own w0 w rows (IK r xs::ss)/\∀ s ∈ ss,s.2.1 ≠ Ey+r
 off:L.getD 0 false=false->Own w0 w rows ss/\xs=[]
 has:∀ p,p ∈ BN xs ↔ ∃ k,k < 8/\L.getD (4 * k+4) false=true/\p=Bl gp k
 l33:L.getD 33 false=true->L.getD 0 false=true
 l34:L.getD 34 false=true->L.getD 0 false=true
variable {w0 w w':World} {rows:Rws} {ss:List Sl} {gp r:Nat} {xs:L_} {L:Array Bool}
theorem I5.start (hm:Own w0 w rows ss):I5 w0 rows ss gp r [] (Array.replicate n false) w:=by
 have h:∀ k,(Array.replicate n false).getD k false=false:=fun k=>by
  by_cases hk:k < n
  ·simp [hk]
  ·simp [hk]
 refine ⟨fun e=>?_,fun _=>⟨hm,rfl⟩,fun p=>?_,fun e=>?_,fun e=>?_⟩
 ·rw [h] at e;cases e
 ·refine ⟨fun hp=>(by cases hp),?_⟩;rintro ⟨k,_,e,_⟩;rw [h] at e;cases e
 ·rw [h] at e;cases e
 ·rw [h] at e;cases e
theorem I5.quiet (h:I5 w0 rows ss gp r xs L w) (h0:i ≠ 0) (hi:∀ k,k < 8->i ≠ 4 * k+4) (hr:i=33\/i=34->L.getD 0 false=true):I5 w0 rows ss gp r xs (L.setIfInBounds i true) w:=by
 have e0:(L.setIfInBounds i true).getD 0 false=L.getD 0 false:=getD_set_ne false h0;refine ⟨fun e=>h.on (e0 ▸ e),fun e=>h.off (e0 ▸ e),fun p=>?_,fun e=>?_,fun e=>?_⟩
 ·rw [h.has p]
  constructor
  ·rintro ⟨k,hk,e,hp⟩;exact ⟨k,hk,by rw [getD_set_ne false (hi k hk)];exact e,hp⟩
  ·rintro ⟨k,hk,e,hp⟩;exact ⟨k,hk,by rw [getD_set_ne false (hi k hk)] at e;exact e,hp⟩
 ·rw [e0];by_cases hc:i=33
  ·exact hr (.inl hc)
  ·rw [getD_set_ne false hc] at e;exact h.l33 e
 ·rw [e0];by_cases hc:i=34
  ·exact hr (.inr hc)
  ·rw [getD_set_ne false hc] at e;exact h.l34 e
theorem I5.call (h:I5 w0 rows ss gp r xs L w) (hb:Below w.heap.size w w'):I5 w0 rows ss gp r xs L w' :=
 ⟨fun e=>⟨(h.on e).1.call hb,(h.on e).2⟩,fun e=>⟨(h.off e).1.call hb,(h.off e).2⟩,h.has,h.l33,h.l34⟩
theorem I5.made (h:I5 w0 rows ss gp r xs L w) (hs:0 < L.size) (e:L.getD 0 false=false) (hm:Own w0 w' rows (IK r' []::ss)) (hd:∀ s ∈ ss,s.2.1 ≠ Ey+r'):I5 w0 rows ss gp r' [] (L.setIfInBounds 0 true) w':=by
 have e0:(L.setIfInBounds 0 true).getD 0 false=true:=ED hs;have hx:=(h.off e).2;refine ⟨fun _=>⟨hm,hd⟩,fun c=>(by rw [e0] at c;cases c),fun p=>?_,fun _=>e0,fun _=>e0⟩;rw [<- hx,h.has p]
 constructor
 ·rintro ⟨k,hk,e,hp⟩;exact ⟨k,hk,by rw [getD_set_ne false (by omega)];exact e,hp⟩
 ·rintro ⟨k,hk,e,hp⟩;exact ⟨k,hk,by rw [getD_set_ne false (by omega)] at e;exact e,hp⟩
theorem EK {gp:Nat} (h:(Bl gp k).1=(Bl gp j).1):k=j:=by
 simp only [Bl,PT,Value.agg.injEq] at h;have:=congrArg (fun a:A_=>a[0]?) h;simp at this;omega
theorem I5.put (h:I5 w0 rows ss gp r xs L w) (hk:k < 8) (hs:4 * k+4 < L.size) (hm:Own w0 w' rows (IK r ((Bl gp k).1::(Bl gp k).2::xs)::ss)) (e:L.getD 0 false=true):I5 w0 rows ss gp r ((Bl gp k).1::(Bl gp k).2::xs) (L.setIfInBounds (4 * k+4) true) w':=by
 have e0:(L.setIfInBounds (4 * k+4) true).getD 0 false=true:=by rw [getD_set_ne false (by omega)];exact e
 refine ⟨fun _=>⟨hm,(h.on e).2⟩,fun c=>(by rw [e0] at c;cases c),fun p=>?_,fun _=>e0,fun _=>e0⟩;simp only [BN,List.mem_cons];rw [h.has p]
 constructor
 ·rintro (rfl|⟨j,hj,e,hp⟩)
  ·exact ⟨k,hk,ED hs,rfl⟩
  ·exact ⟨j,hj,getD_set_true e,hp⟩
 ·rintro ⟨j,hj,e,hp⟩;by_cases hkj:j=k
  ·subst hkj;exact .inl hp
  ·rw [getD_set_ne false (by omega)] at e;exact .inr ⟨j,hj,e,hp⟩
theorem I5.new (h:I5 w0 rows ss gp r xs L w) (hk:k < 8) (e:L.getD (4 * k+4) false=false):∀ p ∈ BN xs,p.1 ≠ (Bl gp k).1:=fun p hp hc=>by
 obtain ⟨j,hj,e2,rfl⟩:=(h.has p).1 hp;have:=EK hc;subst this;rw [e] at e2;cases e2
theorem AV (gp:Nat) (hk:k < 8):∃ l,keyOf prog 134 (Bl gp k).1=some l:=vI (by
 have:k=0\/k=1\/k=2\/k=3\/k=4\/k=5\/k=6\/k=7:=by omega
 rcases this with rfl|rfl|rfl|rfl|rfl|rfl|rfl|rfl<;>decide)
theorem I5.keyed (h:I5 w0 rows ss gp r xs L w):∀ p ∈ BN xs,∃ l,keyOf prog 134 p.1=some l:=fun p hp=>by
 obtain ⟨j,hj,_,rfl⟩:=(h.has p).1 hp;exact AV gp hj
def SInv (w0:World) (rows:Rws) (ss:List Sl) (gp g:Nat) (pr:Value) (L:Array Bool) (a:Act) (w:World):Prop:=∃ r xs,a=SA gp g r pr L/\I5 w0 rows ss gp r xs L w
theorem I5.free (h:I5 w0 rows ss gp r xs L w) (e:L.getD 0 false=false) (r':Nat):SA gp g r pr L=SA gp g r' pr L:=by
 have q:∀ (k:Nat) (v u:Value),L.getD k false=false->slot L k v=slot L k u:=fun k v u hk=>by
  rw [slot,slot,if_neg (by rw [hk];decide),if_neg (by rw [hk];decide)]
 have e33:L.getD 33 false=false:=by
  by_cases hc:L.getD 33 false=true
  ·have:=h.l33 hc;rw [e] at this;cases this
  ·simpa using hc
 have e34:L.getD 34 false=false:=by
  by_cases hc:L.getD 34 false=true
  ·have:=h.l34 hc;rw [e] at this;cases this
  ·simpa using hc
 unfold SA;rw [q 0 (.map (some r)) (.map (some r')) e,q 33 (.map (some r)) (.map (some r')) e33,q 34 (.map (some r)) (.map (some r')) e34]
variable {a:Act} {L:Array Bool} {ss:List Sl} {xs:L_} {g gp r:Nat} {o:Oper} {x:Operand} {P:Program} {rows:Rws} {pr:Value} {w w0:World}
theorem Hy {v:Value} (ho:o.op=.move x) (hx:a.eval x=v):(execOp a.eval o).run P w=.ok (.value v) w:=by
 unfold execOp;simp only [ho,hx];rfl
theorem A0j {v:Value} (ho:o.op=.assign x) (hx:a.eval x=v):(execOp a.eval o).run P w=.ok (.value v) w:=by
 unfold execOp;simp only [ho,hx];rfl
theorem IZ {f:Fn} {v:Value} (ho:o.op=.makeFunc f #[x] #[]) (hx:a.eval x=v):(execOp a.eval o).run P w=.ok (.value (.func f #[v] #[])) w:=by
 unfold execOp;simp only [ho,l_y,List.map_cons,List.map_nil,hx];rfl
def SF (gp g r:Nat) (pr:Value):Act:={ tmps:=(.pointer (some ⟨gp,0,none⟩)::pr::undef::undef::.pointer (some ⟨g,0,none⟩)::(.map (some r))::undef::undef::.pointer (some ⟨gp,0,none⟩)::.bool false::undef::(.map (some r))::(.agg (PT 1))::(.pointer (some ⟨gp,0,none⟩))::(.func (.func 78) #[.pointer (some ⟨gp,0,none⟩)] #[])::(.agg (PT 2))::(.pointer (some ⟨gp,0,none⟩))::(.func (.func 80) #[.pointer (some ⟨gp,0,none⟩)] #[])::(.agg (PT 3))::(.pointer (some ⟨gp,0,none⟩))::(.func (.func 82) #[.pointer (some ⟨gp,0,none⟩)] #[])::(.agg (PT 4))::(.pointer (some ⟨gp,0,none⟩))::(.func (.func 84) #[.pointer (some ⟨gp,0,none⟩)] #[])::(.agg (PT 5))::(.pointer (some ⟨gp,0,none⟩))::(.func (.func 86) #[.pointer (some ⟨gp,0,none⟩)] #[])::(.agg (PT 6))::(.pointer (some ⟨gp,0,none⟩))::(.func (.func 88) #[.pointer (some ⟨gp,0,none⟩)] #[])::(.agg (PT 7))::(.pointer (some ⟨gp,0,none⟩))::(.func (.func 90) #[.pointer (some ⟨gp,0,none⟩)] #[])::(.agg (PT 8))::(.pointer (some ⟨gp,0,none⟩))::(.func (.func 92) #[.pointer (some ⟨gp,0,none⟩)] #[])::(.map (some r))::undef::undef::undef::undef::undef::undef::undef::undef::undef::undef::undef::undef::undef::undef::undef::undef::undef::undef::undef::undef::undef::undef::undef::undef::undef::undef::undef::undef::undef::undef::undef::undef::[]).toArray,defers:=[] }
theorem A2U (h:∀ i,i < 35->L.getD i false=true):SA gp g r pr L=SF gp g r pr:=by
 unfold SA SF;simp only [Au (h 0 (by decide)),Au (h 1 (by decide)),Au (h 2 (by decide)),Au (h 3 (by decide)),Au (h 5 (by decide)),Au (h 6 (by decide)),Au (h 7 (by decide)),Au (h 9 (by decide)),Au (h 10 (by decide)),Au (h 11 (by decide)),Au (h 13 (by decide)),Au (h 14 (by decide)),Au (h 15 (by decide)),Au (h 17 (by decide)),Au (h 18 (by decide)),Au (h 19 (by decide)),Au (h 21 (by decide)),Au (h 22 (by decide)),Au (h 23 (by decide)),Au (h 25 (by decide)),Au (h 26 (by decide)),Au (h 27 (by decide)),Au (h 29 (by decide)),Au (h 30 (by decide)),Au (h 31 (by decide)),Au (h 33 (by decide)),Au (h 34 (by decide))]
theorem I5.all (h:I5 w0 rows ss gp r xs L w) (hl:∀ i,i < 35->L.getD i false=true):∀ p,p ∈ BN xs ↔ ∃ k,k < 8/\p=Bl gp k:=fun p=>by
 rw [h.has p]
 constructor
 ·rintro ⟨k,hk,_,e⟩;exact ⟨k,hk,e⟩
 ·rintro ⟨k,hk,e⟩;exact ⟨k,hk,hl _ (by omega),e⟩
set_option maxHeartbeats 1000000
set_option maxRecDepth 100000
def StI (I:Nat->Rws->Prop) (w0:World) (front:Nat × A_) (ss:List Sl) (w:World) (n:Nat):Prop:=∃ R,I n R/\Own w0 w (front::R) ss
theorem pk_0 (gp:Nat):(Bl gp 0).2=.func (.func 78) #[.pointer (some ⟨gp,0,none⟩)] #[]:=rfl
theorem pk_1 (gp:Nat):(Bl gp 1).2=.func (.func 80) #[.pointer (some ⟨gp,0,none⟩)] #[]:=rfl
theorem pk_2 (gp:Nat):(Bl gp 2).2=.func (.func 82) #[.pointer (some ⟨gp,0,none⟩)] #[]:=rfl
theorem pk_3 (gp:Nat):(Bl gp 3).2=.func (.func 84) #[.pointer (some ⟨gp,0,none⟩)] #[]:=rfl
theorem pk_4 (gp:Nat):(Bl gp 4).2=.func (.func 86) #[.pointer (some ⟨gp,0,none⟩)] #[]:=rfl
theorem pk_5 (gp:Nat):(Bl gp 5).2=.func (.func 88) #[.pointer (some ⟨gp,0,none⟩)] #[]:=rfl
theorem pk_6 (gp:Nat):(Bl gp 6).2=.func (.func 90) #[.pointer (some ⟨gp,0,none⟩)] #[]:=rfl
theorem pk_7 (gp:Nat):(Bl gp 7).2=.func (.func 92) #[.pointer (some ⟨gp,0,none⟩)] #[]:=rfl
theorem zG (gp:Nat) (gr:Nat) (pt hs ms ts cs ds er:A_) (RR:Rws) (w0 w:World) (ss:List Sl) (hm:Own w0 w ((gp,PR pt hs ms ts cs ds er)::RR) ss) (I:Nat->Rws->Prop) (n0:Nat) (hI0:I n0 ((gp,PR pt hs ms ts cs ds er)::RR)) (HI:∀ n R,I n R->∃ (k:Nat) (hs ms ts cs ds er:A_) (RR2:Rws),R=(gp,PR (PT (k+1)) hs ms ts cs ds er)::RR2/\k < 8/\PRz (PT (k+1)) hs ms ts cs ds er) (J:Int->Int->Int->Int->Int->Value->Int->Rws->Prop) (HC:Hid (∀ n k hs ms ts cs ds er RR2 W f ss',k < 8->I n ((gp,PR (PT ((k:Nat)+1)) hs ms ts cs ds er)::RR2)->Own w0 W (f::(gp,PR (PT (k+1)) hs ms ts cs ds er)::RR2) ss'->Calls prog (78+2 * k) #[.pointer (some ⟨gp,0,none⟩),.pointer (some ⟨gr,0,none⟩)] W fun x w'=>∃ kd n1 m p s v e told R',x=.returned (.tuple #[.agg (EVT kd n1 m p s v e),.bool told])/\v.oneCell'=true/\Own w0 w' (f::R') ss'/\(told=true->J kd n1 m p s v e R')/\(told=false->∃ m,m < n/\I m R'))):Calls prog 38 #[.pointer (some ⟨gp,0,none⟩),.pointer (some ⟨gr,0,none⟩)] w fun x w'=>∃ kd n m p s v e R',x=.returned (.agg (EVT kd n m p s v e))/\J kd n m p s v e R'/\Own w0 w' R' ss:=by
 go_enter func38,ntmps38
 go_upto_region 3 with ((with_reducible refine wa 76 hm BX ?_;clear hm;intro w g hm))
 refine I9 rfl (by kernel_rfl) (SInv w0 ((g,EVT 0 0 0 0 0 (.slice none 0 0) 0)::(gp,PR pt hs ms ts cs ds er)::RR) ss gp g (.pointer (some ⟨gr,0,none⟩))) (fun L i a w hz0 hi hI=>?_) (fun L a w hall hI=>?_) ⟨0,[],rfl,I5.start (hm.drawn _)⟩
 ·clear hm;obtain ⟨r,xs,rfl,hM⟩:=hI;have hlt:i < 35:=List.mem_range.1 (List.mem_filter.1 hi).1;have hs:L.size=35:=hz0;have hc:i=0\/i=1\/i=2\/i=3\/i=4\/i=5\/i=6\/i=7\/i=8\/i=9\/i=10\/i=11\/i=12\/i=13\/i=14\/i=15\/i=16\/i=17\/i=18\/i=19\/i=20\/i=21\/i=22\/i=23\/i=24\/i=25\/i=26\/i=27\/i=28\/i=29\/i=30\/i=31\/i=32\/i=33\/i=34:=by omega
  rcases hc with rfl|rfl|rfl|rfl|rfl|rfl|rfl|rfl|rfl|rfl|rfl|rfl|rfl|rfl|rfl|rfl|rfl|rfl|rfl|rfl|rfl|rfl|rfl|rfl|rfl|rfl|rfl|rfl|rfl|rfl|rfl|rfl|rfl|rfl|rfl
  ·refine Dx rfl rfl (fun K hK=>(BD (hM.off (Ap hz0 hi rfl).1).1 rfl (fun w' r' hm' hd=>?_)).wp (fun v w' h=>hK _ _ h));rw [hM.free (Ap hz0 hi rfl).1 r'];exact ⟨r',[],yG (by omega),hM.made (by omega) (Ap hz0 hi rfl).1 hm' hd⟩
  ·refine Dx rfl rfl (fun K hK=>?_);go_simp;refine (iG _).mono ?_;rintro e w1 ⟨rfl,hb⟩;refine hK _ _ ?_;exact ⟨r,xs,yF (by omega),(hM.quiet (by decide) (by omega) (fun h=>absurd h (by decide))).call hb⟩
  ·refine Dx rfl rfl (fun K hK=>(Eff.val (v:=(.pointer (some ⟨gp,0,none⟩))) (w':=w) (Hy rfl rfl) ?_).wp (fun v w' h=>hK _ _ h));exact ⟨r,xs,yE (by omega),hM.quiet (by decide) (by omega) (fun h=>absurd h (by decide))⟩
  ·have d2:L.getD 2 false=true:=(Ap hz0 hi rfl).2 ⟨2,.data⟩ (by simp) rfl;refine Dx rfl rfl (fun K hK=>(Eff.val (v:=(.func (.func 78) #[.pointer (some ⟨gp,0,none⟩)] #[])) (w':=w) (IZ rfl (by exact Au d2)) ?_).wp (fun v w' h=>hK _ _ h));exact ⟨r,xs,yD (by omega),hM.quiet (by decide) (by omega) (fun h=>absurd h (by decide))⟩
  ·have d0:L.getD 0 false=true:=(Ap hz0 hi rfl).2 ⟨0,.data⟩ (by simp) rfl;have d1:L.getD 1 false=true:=(Ap hz0 hi rfl).2 ⟨1,.data⟩ (by simp) rfl;have d3:L.getD 3 false=true:=(Ap hz0 hi rfl).2 ⟨3,.data⟩ (by simp) rfl;refine Dx rfl rfl (fun K hK=>(Bj (k:=(Bl gp 0).1) (v:=(Bl gp 0).2) (hM.on d0).1 (hM.on d0).2 rfl (by exact Au d0) (by exact Au d1) (by exact Au d3) underlying151 GL (AV gp (by decide)) hM.keyed (hM.new (by decide) (Ap hz0 hi rfl).1) (fun w' hm'=>?_)).wp (fun v w' h=>hK _ _ h));exact ⟨r,_,yI,hM.put (k:=0) (by decide) (by omega) hm' d0⟩
  ·refine Dx rfl rfl (fun K hK=>?_);go_simp;refine (WW _).mono ?_;rintro e w1 ⟨rfl,hb⟩;refine hK _ _ ?_;exact ⟨r,xs,yC (by omega),(hM.quiet (by decide) (by omega) (fun h=>absurd h (by decide))).call hb⟩
  ·refine Dx rfl rfl (fun K hK=>(Eff.val (v:=(.pointer (some ⟨gp,0,none⟩))) (w':=w) (Hy rfl rfl) ?_).wp (fun v w' h=>hK _ _ h));exact ⟨r,xs,yB (by omega),hM.quiet (by decide) (by omega) (fun h=>absurd h (by decide))⟩
  ·have d6:L.getD 6 false=true:=(Ap hz0 hi rfl).2 ⟨6,.data⟩ (by simp) rfl;refine Dx rfl rfl (fun K hK=>(Eff.val (v:=(.func (.func 80) #[.pointer (some ⟨gp,0,none⟩)] #[])) (w':=w) (IZ rfl (by exact Au d6)) ?_).wp (fun v w' h=>hK _ _ h));exact ⟨r,xs,yA (by omega),hM.quiet (by decide) (by omega) (fun h=>absurd h (by decide))⟩
  ·have d0:L.getD 0 false=true:=(Ap hz0 hi rfl).2 ⟨0,.data⟩ (by simp) rfl;have d5:L.getD 5 false=true:=(Ap hz0 hi rfl).2 ⟨5,.data⟩ (by simp) rfl;have d7:L.getD 7 false=true:=(Ap hz0 hi rfl).2 ⟨7,.data⟩ (by simp) rfl;refine Dx rfl rfl (fun K hK=>(Bj (k:=(Bl gp 1).1) (v:=(Bl gp 1).2) (hM.on d0).1 (hM.on d0).2 rfl (by exact Au d0) (by exact Au d5) (by exact Au d7) underlying151 GL (AV gp (by decide)) hM.keyed (hM.new (by decide) (Ap hz0 hi rfl).1) (fun w' hm'=>?_)).wp (fun v w' h=>hK _ _ h));exact ⟨r,_,yH,hM.put (k:=1) (by decide) (by omega) hm' d0⟩
  ·refine Dx rfl rfl (fun K hK=>?_);go_simp;refine (WV _).mono ?_;rintro e w1 ⟨rfl,hb⟩;refine hK _ _ ?_;exact ⟨r,xs,yx (by omega),(hM.quiet (by decide) (by omega) (fun h=>absurd h (by decide))).call hb⟩
  ·refine Dx rfl rfl (fun K hK=>(Eff.val (v:=(.pointer (some ⟨gp,0,none⟩))) (w':=w) (Hy rfl rfl) ?_).wp (fun v w' h=>hK _ _ h));exact ⟨r,xs,pO (by omega),hM.quiet (by decide) (by omega) (fun h=>absurd h (by decide))⟩
  ·have d10:L.getD 10 false=true:=(Ap hz0 hi rfl).2 ⟨10,.data⟩ (by simp) rfl;refine Dx rfl rfl (fun K hK=>(Eff.val (v:=(.func (.func 82) #[.pointer (some ⟨gp,0,none⟩)] #[])) (w':=w) (IZ rfl (by exact Au d10)) ?_).wp (fun v w' h=>hK _ _ h));exact ⟨r,xs,pK (by omega),hM.quiet (by decide) (by omega) (fun h=>absurd h (by decide))⟩
  ·have d0:L.getD 0 false=true:=(Ap hz0 hi rfl).2 ⟨0,.data⟩ (by simp) rfl;have d9:L.getD 9 false=true:=(Ap hz0 hi rfl).2 ⟨9,.data⟩ (by simp) rfl;have d11:L.getD 11 false=true:=(Ap hz0 hi rfl).2 ⟨11,.data⟩ (by simp) rfl;refine Dx rfl rfl (fun K hK=>(Bj (k:=(Bl gp 2).1) (v:=(Bl gp 2).2) (hM.on d0).1 (hM.on d0).2 rfl (by exact Au d0) (by exact Au d9) (by exact Au d11) underlying151 GL (AV gp (by decide)) hM.keyed (hM.new (by decide) (Ap hz0 hi rfl).1) (fun w' hm'=>?_)).wp (fun v w' h=>hK _ _ h));exact ⟨r,_,pY,hM.put (k:=2) (by decide) (by omega) hm' d0⟩
  ·refine Dx rfl rfl (fun K hK=>?_);go_simp;refine (iF _).mono ?_;rintro e w1 ⟨rfl,hb⟩;refine hK _ _ ?_;exact ⟨r,xs,pJ (by omega),(hM.quiet (by decide) (by omega) (fun h=>absurd h (by decide))).call hb⟩
  ·refine Dx rfl rfl (fun K hK=>(Eff.val (v:=(.pointer (some ⟨gp,0,none⟩))) (w':=w) (Hy rfl rfl) ?_).wp (fun v w' h=>hK _ _ h));exact ⟨r,xs,pI (by omega),hM.quiet (by decide) (by omega) (fun h=>absurd h (by decide))⟩
  ·have d14:L.getD 14 false=true:=(Ap hz0 hi rfl).2 ⟨14,.data⟩ (by simp) rfl;refine Dx rfl rfl (fun K hK=>(Eff.val (v:=(.func (.func 84) #[.pointer (some ⟨gp,0,none⟩)] #[])) (w':=w) (IZ rfl (by exact Au d14)) ?_).wp (fun v w' h=>hK _ _ h));exact ⟨r,xs,pG (by omega),hM.quiet (by decide) (by omega) (fun h=>absurd h (by decide))⟩
  ·have d0:L.getD 0 false=true:=(Ap hz0 hi rfl).2 ⟨0,.data⟩ (by simp) rfl;have d13:L.getD 13 false=true:=(Ap hz0 hi rfl).2 ⟨13,.data⟩ (by simp) rfl;have d15:L.getD 15 false=true:=(Ap hz0 hi rfl).2 ⟨15,.data⟩ (by simp) rfl;refine Dx rfl rfl (fun K hK=>(Bj (k:=(Bl gp 3).1) (v:=(Bl gp 3).2) (hM.on d0).1 (hM.on d0).2 rfl (by exact Au d0) (by exact Au d13) (by exact Au d15) underlying151 GL (AV gp (by decide)) hM.keyed (hM.new (by decide) (Ap hz0 hi rfl).1) (fun w' hm'=>?_)).wp (fun v w' h=>hK _ _ h));exact ⟨r,_,pX,hM.put (k:=3) (by decide) (by omega) hm' d0⟩
  ·refine Dx rfl rfl (fun K hK=>?_);go_simp;refine (iE _).mono ?_;rintro e w1 ⟨rfl,hb⟩;refine hK _ _ ?_;exact ⟨r,xs,pF (by omega),(hM.quiet (by decide) (by omega) (fun h=>absurd h (by decide))).call hb⟩
  ·refine Dx rfl rfl (fun K hK=>(Eff.val (v:=(.pointer (some ⟨gp,0,none⟩))) (w':=w) (Hy rfl rfl) ?_).wp (fun v w' h=>hK _ _ h));exact ⟨r,xs,pz (by omega),hM.quiet (by decide) (by omega) (fun h=>absurd h (by decide))⟩
  ·have d18:L.getD 18 false=true:=(Ap hz0 hi rfl).2 ⟨18,.data⟩ (by simp) rfl;refine Dx rfl rfl (fun K hK=>(Eff.val (v:=(.func (.func 86) #[.pointer (some ⟨gp,0,none⟩)] #[])) (w':=w) (IZ rfl (by exact Au d18)) ?_).wp (fun v w' h=>hK _ _ h));exact ⟨r,xs,A7d (by omega),hM.quiet (by decide) (by omega) (fun h=>absurd h (by decide))⟩
  ·have d0:L.getD 0 false=true:=(Ap hz0 hi rfl).2 ⟨0,.data⟩ (by simp) rfl;have d17:L.getD 17 false=true:=(Ap hz0 hi rfl).2 ⟨17,.data⟩ (by simp) rfl;have d19:L.getD 19 false=true:=(Ap hz0 hi rfl).2 ⟨19,.data⟩ (by simp) rfl;refine Dx rfl rfl (fun K hK=>(Bj (k:=(Bl gp 4).1) (v:=(Bl gp 4).2) (hM.on d0).1 (hM.on d0).2 rfl (by exact Au d0) (by exact Au d17) (by exact Au d19) underlying151 GL (AV gp (by decide)) hM.keyed (hM.new (by decide) (Ap hz0 hi rfl).1) (fun w' hm'=>?_)).wp (fun v w' h=>hK _ _ h));exact ⟨r,_,pW,hM.put (k:=4) (by decide) (by omega) hm' d0⟩
  ·refine Dx rfl rfl (fun K hK=>?_);go_simp;refine (WU _).mono ?_;rintro e w1 ⟨rfl,hb⟩;refine hK _ _ ?_;exact ⟨r,xs,oZ (by omega),(hM.quiet (by decide) (by omega) (fun h=>absurd h (by decide))).call hb⟩
  ·refine Dx rfl rfl (fun K hK=>(Eff.val (v:=(.pointer (some ⟨gp,0,none⟩))) (w':=w) (Hy rfl rfl) ?_).wp (fun v w' h=>hK _ _ h));exact ⟨r,xs,oW (by omega),hM.quiet (by decide) (by omega) (fun h=>absurd h (by decide))⟩
  ·have d22:L.getD 22 false=true:=(Ap hz0 hi rfl).2 ⟨22,.data⟩ (by simp) rfl;refine Dx rfl rfl (fun K hK=>(Eff.val (v:=(.func (.func 88) #[.pointer (some ⟨gp,0,none⟩)] #[])) (w':=w) (IZ rfl (by exact Au d22)) ?_).wp (fun v w' h=>hK _ _ h));exact ⟨r,xs,oV (by omega),hM.quiet (by decide) (by omega) (fun h=>absurd h (by decide))⟩
  ·have d0:L.getD 0 false=true:=(Ap hz0 hi rfl).2 ⟨0,.data⟩ (by simp) rfl;have d21:L.getD 21 false=true:=(Ap hz0 hi rfl).2 ⟨21,.data⟩ (by simp) rfl;have d23:L.getD 23 false=true:=(Ap hz0 hi rfl).2 ⟨23,.data⟩ (by simp) rfl;refine Dx rfl rfl (fun K hK=>(Bj (k:=(Bl gp 5).1) (v:=(Bl gp 5).2) (hM.on d0).1 (hM.on d0).2 rfl (by exact Au d0) (by exact Au d21) (by exact Au d23) underlying151 GL (AV gp (by decide)) hM.keyed (hM.new (by decide) (Ap hz0 hi rfl).1) (fun w' hm'=>?_)).wp (fun v w' h=>hK _ _ h));exact ⟨r,_,pV,hM.put (k:=5) (by decide) (by omega) hm' d0⟩
  ·refine Dx rfl rfl (fun K hK=>?_);go_simp;refine (iD _).mono ?_;rintro e w1 ⟨rfl,hb⟩;refine hK _ _ ?_;exact ⟨r,xs,oU (by omega),(hM.quiet (by decide) (by omega) (fun h=>absurd h (by decide))).call hb⟩
  ·refine Dx rfl rfl (fun K hK=>(Eff.val (v:=(.pointer (some ⟨gp,0,none⟩))) (w':=w) (Hy rfl rfl) ?_).wp (fun v w' h=>hK _ _ h));exact ⟨r,xs,oQ (by omega),hM.quiet (by decide) (by omega) (fun h=>absurd h (by decide))⟩
  ·have d26:L.getD 26 false=true:=(Ap hz0 hi rfl).2 ⟨26,.data⟩ (by simp) rfl;refine Dx rfl rfl (fun K hK=>(Eff.val (v:=(.func (.func 90) #[.pointer (some ⟨gp,0,none⟩)] #[])) (w':=w) (IZ rfl (by exact Au d26)) ?_).wp (fun v w' h=>hK _ _ h));exact ⟨r,xs,oP (by omega),hM.quiet (by decide) (by omega) (fun h=>absurd h (by decide))⟩
  ·have d0:L.getD 0 false=true:=(Ap hz0 hi rfl).2 ⟨0,.data⟩ (by simp) rfl;have d25:L.getD 25 false=true:=(Ap hz0 hi rfl).2 ⟨25,.data⟩ (by simp) rfl;have d27:L.getD 27 false=true:=(Ap hz0 hi rfl).2 ⟨27,.data⟩ (by simp) rfl;refine Dx rfl rfl (fun K hK=>(Bj (k:=(Bl gp 6).1) (v:=(Bl gp 6).2) (hM.on d0).1 (hM.on d0).2 rfl (by exact Au d0) (by exact Au d25) (by exact Au d27) underlying151 GL (AV gp (by decide)) hM.keyed (hM.new (by decide) (Ap hz0 hi rfl).1) (fun w' hm'=>?_)).wp (fun v w' h=>hK _ _ h));exact ⟨r,_,pU,hM.put (k:=6) (by decide) (by omega) hm' d0⟩
  ·refine Dx rfl rfl (fun K hK=>?_);go_simp;refine (iC _).mono ?_;rintro e w1 ⟨rfl,hb⟩;refine hK _ _ ?_;exact ⟨r,xs,oO (by omega),(hM.quiet (by decide) (by omega) (fun h=>absurd h (by decide))).call hb⟩
  ·refine Dx rfl rfl (fun K hK=>(Eff.val (v:=(.pointer (some ⟨gp,0,none⟩))) (w':=w) (Hy rfl rfl) ?_).wp (fun v w' h=>hK _ _ h));exact ⟨r,xs,oN (by omega),hM.quiet (by decide) (by omega) (fun h=>absurd h (by decide))⟩
  ·have d30:L.getD 30 false=true:=(Ap hz0 hi rfl).2 ⟨30,.data⟩ (by simp) rfl;refine Dx rfl rfl (fun K hK=>(Eff.val (v:=(.func (.func 92) #[.pointer (some ⟨gp,0,none⟩)] #[])) (w':=w) (IZ rfl (by exact Au d30)) ?_).wp (fun v w' h=>hK _ _ h));exact ⟨r,xs,oM (by omega),hM.quiet (by decide) (by omega) (fun h=>absurd h (by decide))⟩
  ·have d0:L.getD 0 false=true:=(Ap hz0 hi rfl).2 ⟨0,.data⟩ (by simp) rfl;have d29:L.getD 29 false=true:=(Ap hz0 hi rfl).2 ⟨29,.data⟩ (by simp) rfl;have d31:L.getD 31 false=true:=(Ap hz0 hi rfl).2 ⟨31,.data⟩ (by simp) rfl;refine Dx rfl rfl (fun K hK=>(Bj (k:=(Bl gp 7).1) (v:=(Bl gp 7).2) (hM.on d0).1 (hM.on d0).2 rfl (by exact Au d0) (by exact Au d29) (by exact Au d31) underlying151 GL (AV gp (by decide)) hM.keyed (hM.new (by decide) (Ap hz0 hi rfl).1) (fun w' hm'=>?_)).wp (fun v w' h=>hK _ _ h));exact ⟨r,_,pR,hM.put (k:=7) (by decide) (by omega) hm' d0⟩
  ·have d0:L.getD 0 false=true:=(Ap hz0 hi rfl).2 ⟨0,.data⟩ (by simp) rfl;refine Dx rfl rfl (fun K hK=>(Eff.val (v:=(.map (some r))) (w':=w) (Hy rfl (by exact Au d0)) ?_).wp (fun v w' h=>hK _ _ h));exact ⟨r,xs,oL (by omega),hM.quiet (by decide) (by omega) (fun _=>d0)⟩
  ·have d33:L.getD 33 false=true:=(Ap hz0 hi rfl).2 ⟨33,.data⟩ (by simp) rfl;have d0:=hM.l33 d33;refine Dx rfl rfl (fun K hK=>(Eff.val (v:=(.map (some r))) (w':=w) (A0j rfl (by exact Au d33)) ?_).wp (fun v w' h=>hK _ _ h));exact ⟨r,xs,oK (by omega),hM.quiet (by decide) (by omega) (fun _=>d0)⟩
 ·obtain ⟨r,xs,rfl,hM⟩:=hI;have hall:∀ i,i < 35->L.getD i false=true:=hall;rw [A2U hall];have HM:=h_ (hM.all hall);have hd:=(hM.on (hall 0 (by decide))).2;replace hm:=(hM.on (hall 0 (by decide))).1;clear hM hall;unfold SF;go_simp
  (rename_i hK;refine hK _ _ ?_;clear hK)
  go_wp2_with fail
  go_loopw [] (fun wr=>∃ n,StI I w0 (g,EVT 0 0 0 0 0 (.slice none 0 0) 0) (IK r xs::ss) wr n) (fun wr=>Po (StI I w0 (g,EVT 0 0 0 0 0 (.slice none 0 0) 0) (IK r xs::ss) wr))
  case atStart=>exact ⟨n0,_,hI0,hm⟩
  case round =>
   obtain ⟨n1,hn1⟩:=hrel;have hn:=YV hn1;obtain ⟨R,hI,hm⟩:=hn;obtain ⟨k,hs2,ms2,ts2,cs2,ds2,er2,RR2,rfl,hk,hz2⟩:=HI _ _ hI
   go_upto_region 4 with fail
   refine rO hm 18 (.rds [(0,false),(1,false),(2,false),(3,false),(4,false),(5,false),(6,true)] (.one 7 (.rds [(8,false),(9,false),(10,false),(11,false),(12,false),(13,false),(14,true)] (.one 15 (.rds [(16,false),(17,false)] .done))))) ?_;clear hm;intro w hm;simp only [KT.rds]
   iterate 3 refine kq ?_
   ((refine Bz rfl rfl ?_))
   try simp only [Act.put,s3]
   ((refine Bz rfl rfl ?_))
   try simp only [Act.put,s3]
   ((refine Bz rfl rfl ?_))
   try simp only [Act.put,s3]
   ((refine D6 rfl rfl ?_))
   try simp only [Act.put,s3]
   refine RX hm rfl rfl ?_
   try simp only [Act.put,s3]
   ((refine Bz rfl rfl ?_))
   try simp only [Act.put,s3]
   iterate 2 refine kq ?_
   ((refine Bz rfl rfl ?_))
   try simp only [Act.put,s3]
   ((refine Bz rfl rfl ?_))
   try simp only [Act.put,s3]
   ((refine Bz rfl rfl ?_))
   try simp only [Act.put,s3]
   ((refine D6 rfl rfl ?_))
   try simp only [Act.put,s3]
   refine RX hm rfl rfl ?_
   try simp only [Act.put,s3]
   ((refine Bz rfl rfl ?_))
   try simp only [Act.put,s3]
   refine kq ?_;refine Ba ?_;go_simp;have hkk:k=0\/k=1\/k=2\/k=3\/k=4\/k=5\/k=6\/k=7:=by omega
   rcases hkk with rfl|rfl|rfl|rfl|rfl|rfl|rfl|rfl
   ·go_wp2_with (first
     |(with_reducible refine gLd (t:=134) ?_;(refine A8 rfl (ldp 1 hm rfl rfl rfl (FD hz2) (Cm _) (FH hz2)) ?_))
     |(with_reducible refine gLk ?_;(refine A8 rfl (Ez (k:=(Bl gp 0).1) (v:=.func (.func 78) #[.pointer (some ⟨gp,0,none⟩)] #[]) 0 hm rfl rfl rfl rfl underlying151 GL (AV gp (by decide)) (fun p hp=>by obtain ⟨j,hj,rfl⟩:=(HM.out p).1 hp;exact AV gp hj) ⟨Bl gp 0,(HM.out (Bl gp 0)).2 ⟨0,(by decide),rfl⟩,rfl⟩ (fun p hp e=>by obtain ⟨j,hj,rfl⟩:=(HM.out p).1 hp;have q:=EK (gp:=gp) (k:=j) (j:=0) e;subst q;exact pk_0 gp)) ?_))
     |(go_at_call 78;have _t:=hm;refine (HC.out _ 0 _ _ _ _ _ _ _ _ _ _ (by decide) hI hm).mono ?_;clear _t hm;rintro x w1 ⟨kd,nn,mm,pp,sx,v,e,told,R3,rfl,hv,hm,hJ,hN⟩;cases told)
     |(with_reducible refine wa 76 hm BX ?_;clear hm;intro w g hm)
     |(with_reducible (first|refine ws 76 0 hm ?_ (h1:=c_z (Ak _ _ _ _ _ hv _))|refine ws 76 1 hm ?_ (h1:=c_z (Ak _ _ _ _ _ hv _)));clear hm;intro w hm)
     |(with_reducible refine wla 76 0 hm ?_))
    ·obtain ⟨m,hlt,hIm⟩:=hN (by trivial);have hm3:=hm.dropRow;exact ⟨⟨m,R3,hIm,hm3⟩,Nat.lt_of_le_of_lt (Fv ⟨R3,hIm,hm3⟩) hlt⟩
    ·refine b_r (AQ rfl rfl (hm.row 1 rfl) (Dw _ _ _ _ _ _ _)) rfl ?_;exact ⟨_,_,_,_,_,_,_,R3,rfl,hJ (by trivial),hm.dropRow.dropRow.J9⟩
   ·go_wp2_with (first
     |(with_reducible refine gLd (t:=134) ?_;(refine A8 rfl (ldp 1 hm rfl rfl rfl (FD hz2) (Cm _) (FH hz2)) ?_))
     |(with_reducible refine gLk ?_;(refine A8 rfl (Ez (k:=(Bl gp 1).1) (v:=.func (.func 80) #[.pointer (some ⟨gp,0,none⟩)] #[]) 0 hm rfl rfl rfl rfl underlying151 GL (AV gp (by decide)) (fun p hp=>by obtain ⟨j,hj,rfl⟩:=(HM.out p).1 hp;exact AV gp hj) ⟨Bl gp 1,(HM.out (Bl gp 1)).2 ⟨1,(by decide),rfl⟩,rfl⟩ (fun p hp e=>by obtain ⟨j,hj,rfl⟩:=(HM.out p).1 hp;have q:=EK (gp:=gp) (k:=j) (j:=1) e;subst q;exact pk_1 gp)) ?_))
     |(go_at_call 80;have _t:=hm;refine (HC.out _ 1 _ _ _ _ _ _ _ _ _ _ (by decide) hI hm).mono ?_;clear _t hm;rintro x w1 ⟨kd,nn,mm,pp,sx,v,e,told,R3,rfl,hv,hm,hJ,hN⟩;cases told)
     |(with_reducible refine wa 76 hm BX ?_;clear hm;intro w g hm)
     |(with_reducible (first|refine ws 76 0 hm ?_ (h1:=c_z (Ak _ _ _ _ _ hv _))|refine ws 76 1 hm ?_ (h1:=c_z (Ak _ _ _ _ _ hv _)));clear hm;intro w hm)
     |(with_reducible refine wla 76 0 hm ?_))
    ·obtain ⟨m,hlt,hIm⟩:=hN (by trivial);have hm3:=hm.dropRow;exact ⟨⟨m,R3,hIm,hm3⟩,Nat.lt_of_le_of_lt (Fv ⟨R3,hIm,hm3⟩) hlt⟩
    ·refine b_r (AQ rfl rfl (hm.row 1 rfl) (Dw _ _ _ _ _ _ _)) rfl ?_;exact ⟨_,_,_,_,_,_,_,R3,rfl,hJ (by trivial),hm.dropRow.dropRow.J9⟩
   ·go_wp2_with (first
     |(with_reducible refine gLd (t:=134) ?_;(refine A8 rfl (ldp 1 hm rfl rfl rfl (FD hz2) (Cm _) (FH hz2)) ?_))
     |(with_reducible refine gLk ?_;(refine A8 rfl (Ez (k:=(Bl gp 2).1) (v:=.func (.func 82) #[.pointer (some ⟨gp,0,none⟩)] #[]) 0 hm rfl rfl rfl rfl underlying151 GL (AV gp (by decide)) (fun p hp=>by obtain ⟨j,hj,rfl⟩:=(HM.out p).1 hp;exact AV gp hj) ⟨Bl gp 2,(HM.out (Bl gp 2)).2 ⟨2,(by decide),rfl⟩,rfl⟩ (fun p hp e=>by obtain ⟨j,hj,rfl⟩:=(HM.out p).1 hp;have q:=EK (gp:=gp) (k:=j) (j:=2) e;subst q;exact pk_2 gp)) ?_))
     |(go_at_call 82;have _t:=hm;refine (HC.out _ 2 _ _ _ _ _ _ _ _ _ _ (by decide) hI hm).mono ?_;clear _t hm;rintro x w1 ⟨kd,nn,mm,pp,sx,v,e,told,R3,rfl,hv,hm,hJ,hN⟩;cases told)
     |(with_reducible refine wa 76 hm BX ?_;clear hm;intro w g hm)
     |(with_reducible (first|refine ws 76 0 hm ?_ (h1:=c_z (Ak _ _ _ _ _ hv _))|refine ws 76 1 hm ?_ (h1:=c_z (Ak _ _ _ _ _ hv _)));clear hm;intro w hm)
     |(with_reducible refine wla 76 0 hm ?_))
    ·obtain ⟨m,hlt,hIm⟩:=hN (by trivial);have hm3:=hm.dropRow;exact ⟨⟨m,R3,hIm,hm3⟩,Nat.lt_of_le_of_lt (Fv ⟨R3,hIm,hm3⟩) hlt⟩
    ·refine b_r (AQ rfl rfl (hm.row 1 rfl) (Dw _ _ _ _ _ _ _)) rfl ?_;exact ⟨_,_,_,_,_,_,_,R3,rfl,hJ (by trivial),hm.dropRow.dropRow.J9⟩
   ·go_wp2_with (first
     |(with_reducible refine gLd (t:=134) ?_;(refine A8 rfl (ldp 1 hm rfl rfl rfl (FD hz2) (Cm _) (FH hz2)) ?_))
     |(with_reducible refine gLk ?_;(refine A8 rfl (Ez (k:=(Bl gp 3).1) (v:=.func (.func 84) #[.pointer (some ⟨gp,0,none⟩)] #[]) 0 hm rfl rfl rfl rfl underlying151 GL (AV gp (by decide)) (fun p hp=>by obtain ⟨j,hj,rfl⟩:=(HM.out p).1 hp;exact AV gp hj) ⟨Bl gp 3,(HM.out (Bl gp 3)).2 ⟨3,(by decide),rfl⟩,rfl⟩ (fun p hp e=>by obtain ⟨j,hj,rfl⟩:=(HM.out p).1 hp;have q:=EK (gp:=gp) (k:=j) (j:=3) e;subst q;exact pk_3 gp)) ?_))
     |(go_at_call 84;have _t:=hm;refine (HC.out _ 3 _ _ _ _ _ _ _ _ _ _ (by decide) hI hm).mono ?_;clear _t hm;rintro x w1 ⟨kd,nn,mm,pp,sx,v,e,told,R3,rfl,hv,hm,hJ,hN⟩;cases told)
     |(with_reducible refine wa 76 hm BX ?_;clear hm;intro w g hm)
     |(with_reducible (first|refine ws 76 0 hm ?_ (h1:=c_z (Ak _ _ _ _ _ hv _))|refine ws 76 1 hm ?_ (h1:=c_z (Ak _ _ _ _ _ hv _)));clear hm;intro w hm)
     |(with_reducible refine wla 76 0 hm ?_))
    ·obtain ⟨m,hlt,hIm⟩:=hN (by trivial);have hm3:=hm.dropRow;exact ⟨⟨m,R3,hIm,hm3⟩,Nat.lt_of_le_of_lt (Fv ⟨R3,hIm,hm3⟩) hlt⟩
    ·refine b_r (AQ rfl rfl (hm.row 1 rfl) (Dw _ _ _ _ _ _ _)) rfl ?_;exact ⟨_,_,_,_,_,_,_,R3,rfl,hJ (by trivial),hm.dropRow.dropRow.J9⟩
   ·go_wp2_with (first
     |(with_reducible refine gLd (t:=134) ?_;(refine A8 rfl (ldp 1 hm rfl rfl rfl (FD hz2) (Cm _) (FH hz2)) ?_))
     |(with_reducible refine gLk ?_;(refine A8 rfl (Ez (k:=(Bl gp 4).1) (v:=.func (.func 86) #[.pointer (some ⟨gp,0,none⟩)] #[]) 0 hm rfl rfl rfl rfl underlying151 GL (AV gp (by decide)) (fun p hp=>by obtain ⟨j,hj,rfl⟩:=(HM.out p).1 hp;exact AV gp hj) ⟨Bl gp 4,(HM.out (Bl gp 4)).2 ⟨4,(by decide),rfl⟩,rfl⟩ (fun p hp e=>by obtain ⟨j,hj,rfl⟩:=(HM.out p).1 hp;have q:=EK (gp:=gp) (k:=j) (j:=4) e;subst q;exact pk_4 gp)) ?_))
     |(go_at_call 86;have _t:=hm;refine (HC.out _ 4 _ _ _ _ _ _ _ _ _ _ (by decide) hI hm).mono ?_;clear _t hm;rintro x w1 ⟨kd,nn,mm,pp,sx,v,e,told,R3,rfl,hv,hm,hJ,hN⟩;cases told)
     |(with_reducible refine wa 76 hm BX ?_;clear hm;intro w g hm)
     |(with_reducible (first|refine ws 76 0 hm ?_ (h1:=c_z (Ak _ _ _ _ _ hv _))|refine ws 76 1 hm ?_ (h1:=c_z (Ak _ _ _ _ _ hv _)));clear hm;intro w hm)
     |(with_reducible refine wla 76 0 hm ?_))
    ·obtain ⟨m,hlt,hIm⟩:=hN (by trivial);have hm3:=hm.dropRow;exact ⟨⟨m,R3,hIm,hm3⟩,Nat.lt_of_le_of_lt (Fv ⟨R3,hIm,hm3⟩) hlt⟩
    ·refine b_r (AQ rfl rfl (hm.row 1 rfl) (Dw _ _ _ _ _ _ _)) rfl ?_;exact ⟨_,_,_,_,_,_,_,R3,rfl,hJ (by trivial),hm.dropRow.dropRow.J9⟩
   ·go_wp2_with (first
     |(with_reducible refine gLd (t:=134) ?_;(refine A8 rfl (ldp 1 hm rfl rfl rfl (FD hz2) (Cm _) (FH hz2)) ?_))
     |(with_reducible refine gLk ?_;(refine A8 rfl (Ez (k:=(Bl gp 5).1) (v:=.func (.func 88) #[.pointer (some ⟨gp,0,none⟩)] #[]) 0 hm rfl rfl rfl rfl underlying151 GL (AV gp (by decide)) (fun p hp=>by obtain ⟨j,hj,rfl⟩:=(HM.out p).1 hp;exact AV gp hj) ⟨Bl gp 5,(HM.out (Bl gp 5)).2 ⟨5,(by decide),rfl⟩,rfl⟩ (fun p hp e=>by obtain ⟨j,hj,rfl⟩:=(HM.out p).1 hp;have q:=EK (gp:=gp) (k:=j) (j:=5) e;subst q;exact pk_5 gp)) ?_))
     |(go_at_call 88;have _t:=hm;refine (HC.out _ 5 _ _ _ _ _ _ _ _ _ _ (by decide) hI hm).mono ?_;clear _t hm;rintro x w1 ⟨kd,nn,mm,pp,sx,v,e,told,R3,rfl,hv,hm,hJ,hN⟩;cases told)
     |(with_reducible refine wa 76 hm BX ?_;clear hm;intro w g hm)
     |(with_reducible (first|refine ws 76 0 hm ?_ (h1:=c_z (Ak _ _ _ _ _ hv _))|refine ws 76 1 hm ?_ (h1:=c_z (Ak _ _ _ _ _ hv _)));clear hm;intro w hm)
     |(with_reducible refine wla 76 0 hm ?_))
    ·obtain ⟨m,hlt,hIm⟩:=hN (by trivial);have hm3:=hm.dropRow;exact ⟨⟨m,R3,hIm,hm3⟩,Nat.lt_of_le_of_lt (Fv ⟨R3,hIm,hm3⟩) hlt⟩
    ·refine b_r (AQ rfl rfl (hm.row 1 rfl) (Dw _ _ _ _ _ _ _)) rfl ?_;exact ⟨_,_,_,_,_,_,_,R3,rfl,hJ (by trivial),hm.dropRow.dropRow.J9⟩
   ·go_wp2_with (first
     |(with_reducible refine gLd (t:=134) ?_;(refine A8 rfl (ldp 1 hm rfl rfl rfl (FD hz2) (Cm _) (FH hz2)) ?_))
     |(with_reducible refine gLk ?_;(refine A8 rfl (Ez (k:=(Bl gp 6).1) (v:=.func (.func 90) #[.pointer (some ⟨gp,0,none⟩)] #[]) 0 hm rfl rfl rfl rfl underlying151 GL (AV gp (by decide)) (fun p hp=>by obtain ⟨j,hj,rfl⟩:=(HM.out p).1 hp;exact AV gp hj) ⟨Bl gp 6,(HM.out (Bl gp 6)).2 ⟨6,(by decide),rfl⟩,rfl⟩ (fun p hp e=>by obtain ⟨j,hj,rfl⟩:=(HM.out p).1 hp;have q:=EK (gp:=gp) (k:=j) (j:=6) e;subst q;exact pk_6 gp)) ?_))
     |(go_at_call 90;have _t:=hm;refine (HC.out _ 6 _ _ _ _ _ _ _ _ _ _ (by decide) hI hm).mono ?_;clear _t hm;rintro x w1 ⟨kd,nn,mm,pp,sx,v,e,told,R3,rfl,hv,hm,hJ,hN⟩;cases told)
     |(with_reducible refine wa 76 hm BX ?_;clear hm;intro w g hm)
     |(with_reducible (first|refine ws 76 0 hm ?_ (h1:=c_z (Ak _ _ _ _ _ hv _))|refine ws 76 1 hm ?_ (h1:=c_z (Ak _ _ _ _ _ hv _)));clear hm;intro w hm)
     |(with_reducible refine wla 76 0 hm ?_))
    ·obtain ⟨m,hlt,hIm⟩:=hN (by trivial);have hm3:=hm.dropRow;exact ⟨⟨m,R3,hIm,hm3⟩,Nat.lt_of_le_of_lt (Fv ⟨R3,hIm,hm3⟩) hlt⟩
    ·refine b_r (AQ rfl rfl (hm.row 1 rfl) (Dw _ _ _ _ _ _ _)) rfl ?_;exact ⟨_,_,_,_,_,_,_,R3,rfl,hJ (by trivial),hm.dropRow.dropRow.J9⟩
   ·go_wp2_with (first
     |(with_reducible refine gLd (t:=134) ?_;(refine A8 rfl (ldp 1 hm rfl rfl rfl (FD hz2) (Cm _) (FH hz2)) ?_))
     |(with_reducible refine gLk ?_;(refine A8 rfl (Ez (k:=(Bl gp 7).1) (v:=.func (.func 92) #[.pointer (some ⟨gp,0,none⟩)] #[]) 0 hm rfl rfl rfl rfl underlying151 GL (AV gp (by decide)) (fun p hp=>by obtain ⟨j,hj,rfl⟩:=(HM.out p).1 hp;exact AV gp hj) ⟨Bl gp 7,(HM.out (Bl gp 7)).2 ⟨7,(by decide),rfl⟩,rfl⟩ (fun p hp e=>by obtain ⟨j,hj,rfl⟩:=(HM.out p).1 hp;have q:=EK (gp:=gp) (k:=j) (j:=7) e;subst q;exact pk_7 gp)) ?_))
     |(go_at_call 92;have _t:=hm;refine (HC.out _ 7 _ _ _ _ _ _ _ _ _ _ (by decide) hI hm).mono ?_;clear _t hm;rintro x w1 ⟨kd,nn,mm,pp,sx,v,e,told,R3,rfl,hv,hm,hJ,hN⟩;cases told)
     |(with_reducible refine wa 76 hm BX ?_;clear hm;intro w g hm)
     |(with_reducible (first|refine ws 76 0 hm ?_ (h1:=c_z (Ak _ _ _ _ _ hv _))|refine ws 76 1 hm ?_ (h1:=c_z (Ak _ _ _ _ _ hv _)));clear hm;intro w hm)
     |(with_reducible refine wla 76 0 hm ?_))
    ·obtain ⟨m,hlt,hIm⟩:=hN (by trivial);have hm3:=hm.dropRow;exact ⟨⟨m,R3,hIm,hm3⟩,Nat.lt_of_le_of_lt (Fv ⟨R3,hIm,hm3⟩) hlt⟩
    ·refine b_r (AQ rfl rfl (hm.row 1 rfl) (Dw _ _ _ _ _ _ _)) rfl ?_;exact ⟨_,_,_,_,_,_,_,R3,rfl,hJ (by trivial),hm.dropRow.dropRow.J9⟩
set_option maxHeartbeats 2000000
set_option maxRecDepth 100000
theorem Y8 {P:Program} (w:World) (d:Nat) (t:TypeId) {ps rs:Array TypeId} {b:Bool} {f:Fn} {x y:A_} (h:P.underlying t=some (.func ps rs b)):(Op.equalIn (d+1) t (.func f x y) .nilFunc).run P w=.ok false w:=by
 simp [Op.equalIn,r_u h]
theorem BH {w:World} {o:Oper} {a:Act} {x y:Operand} {t':TypeId} (ho:o.op=.binOp .eql 211 x y t') {f:Fn} {p q:A_} (hx:a.eval x=.func f p q) (hy:a.eval y=.nilFunc):(execOp a.eval o).run prog w=.ok (.value (.bool false)) w:=by
 have h:(Op.equal 211 (.func f p q) .nilFunc).run prog w=.ok false w:=Y8 w 9999 211 underlying211;unfold execOp;simp [ho,hx,hy,eqGuard,binOp,h,Result.andThen]
theorem zL (n:Int) (n0:1<=n) (n1:n<=65536)  (w:World):Calls prog 101 #[.int .i64 n,.agg (MS 0 0 0 0 0 0 0),.int .u8 0] w (RB w (.tuple #[.agg (MS 5 0 0 0 0 0 0),.bool false,.int .i64 0])):=by
 have CV:Hid (∀ w,Calls prog 142 #[.int .i64 n,.agg (MS 0 0 0 0 0 0 0)] w (RB w (.bool true))):=h_ fun w=>Sr n n0 n1 w;have CM:Hid (∀ w,Calls prog 138 #[.int .i64 n,.agg (MS 0 0 0 0 0 0 0),.int .u8 0] w (RB w (.tuple #[.agg (MS 5 0 0 0 0 0 0),.bool true]))):=h_ fun w=>A2f n w;go_enter func101,ntmps101;have hm:=Own.nil w
 go_upto_region 8 with (first
  |(with_reducible refine gMm ?_;(refine Ad rfl (BD hm rfl ?_);clear hm;intro w r hm hd))
  |(with_reducible refine gIn ?_;(refine Ad rfl (Bj hm hd rfl (Ac rfl) BP E5 underlying210 kd3 (EY (by decide)) (BA rfl) (EU rfl) ?_);clear hm;intro w hm))
  |(with_reducible refine gBo (t:=211) ?_;(refine A8 rfl (BH rfl (Ac rfl) BP) ?_))
  |(with_reducible refine gLk ?_;(refine A8 rfl (Ez (v:=.func (.func 138) #[] #[]) 0 hm rfl (Ac rfl) (Ac rfl) rfl underlying210 kd3 (EY (by decide)) (BA rfl) (Bh rfl rfl).1 (Bh rfl rfl).2) ?_))
  |(go_at_call 142;refine cB (CV.out _) hm ?_;clear hm;intro w1 hm)
  |(go_at_call 138;refine cB (CM.out _) hm ?_;clear hm;intro w1 hm)
  |(with_reducible first|(refine wl 3 1 hm ?_)|(refine wla 88 1 hm ?_)|(refine wu 88 1 hm ?_;clear hm;intro w hm)|(refine wa 88 hm H9 ?_;clear hm;intro w g hm)|(refine wb hm ?_;clear hm;intro w g hm)))
 refine BQ hm 12 (.rds [(0,true),(1,false),(2,true),(3,false),(4,false),(5,false),(6,true),(7,false),(8,false)] (.one 9 (.rds [(10,false),(11,false)] .done))) rfl (by kernel_rfl) rfl (by kernel_rfl) (fun _ _ d _ _ h=>by cases d<;>exact h) ?_;clear hm;intro w hm;simp only [KT.rds];refine km (fun W hb=>have hm:=hb.own;lda 0 hm rfl rfl rfl (ag rfl)) ?_;refine kq ?_;refine km (fun W hb=>have hm:=hb.own;ld 0 hm rfl rfl rfl (ot rfl) rfl) ?_
 iterate 3 refine kq ?_
 refine km (fun W hb=>have hm:=hb.own;ld 0 hm rfl rfl rfl (ot rfl) rfl) ?_
 iterate 2 refine kq ?_
 ((refine Bo rfl rfl (Aw 0 hm rfl rfl (Ac rfl) rfl (ag rfl) rfl (Dp rfl) ?_)))
 clear hm;intro w hm
 try simp only [puts,s2,List.set,List.eraseIdx,s3] at hm
 refine ⟨But _ _ _ _,fun _ h=>h,But.mk hm,?_⟩
 try simp only [Act.put,s3]
 iterate 2 refine kq ?_
 refine Ba ?_;go_simp
 go_wp2_with fail
 (refine b_r (Ae rfl rfl (hm.row 0 rfl) (ag rfl)) rfl ?_)
 exact ⟨rfl,hm.below⟩
theorem zK (n:Int) (n0:1<=n) (n1:n<=65536)  (w:World):Calls prog 101 #[.int .i64 n,.agg (MS 0 0 0 0 0 0 0),.int .u8 1] w (RB w (.tuple #[.agg (MS 1 0 0 0 0 0 0),.bool false,.int .i64 0])):=by
 have CV:Hid (∀ w,Calls prog 142 #[.int .i64 n,.agg (MS 0 0 0 0 0 0 0)] w (RB w (.bool true))):=h_ fun w=>Sr n n0 n1 w;have CM:Hid (∀ w,Calls prog 138 #[.int .i64 n,.agg (MS 0 0 0 0 0 0 0),.int .u8 1] w (RB w (.tuple #[.agg (MS 1 0 0 0 0 0 0),.bool true]))):=h_ fun w=>A2e n w;go_enter func101,ntmps101;have hm:=Own.nil w
 go_upto_region 8 with (first
  |(with_reducible refine gMm ?_;(refine Ad rfl (BD hm rfl ?_);clear hm;intro w r hm hd))
  |(with_reducible refine gIn ?_;(refine Ad rfl (Bj hm hd rfl (Ac rfl) BP E5 underlying210 kd3 (EY (by decide)) (BA rfl) (EU rfl) ?_);clear hm;intro w hm))
  |(with_reducible refine gBo (t:=211) ?_;(refine A8 rfl (BH rfl (Ac rfl) BP) ?_))
  |(with_reducible refine gLk ?_;(refine A8 rfl (Ez (v:=.func (.func 138) #[] #[]) 0 hm rfl (Ac rfl) (Ac rfl) rfl underlying210 kd3 (EY (by decide)) (BA rfl) (Bh rfl rfl).1 (Bh rfl rfl).2) ?_))
  |(go_at_call 142;refine cB (CV.out _) hm ?_;clear hm;intro w1 hm)
  |(go_at_call 138;refine cB (CM.out _) hm ?_;clear hm;intro w1 hm)
  |(with_reducible first|(refine wl 3 1 hm ?_)|(refine wla 88 1 hm ?_)|(refine wu 88 1 hm ?_;clear hm;intro w hm)|(refine wa 88 hm H9 ?_;clear hm;intro w g hm)|(refine wb hm ?_;clear hm;intro w g hm)))
 refine BQ hm 12 (.rds [(0,true),(1,false),(2,true),(3,false),(4,false),(5,false),(6,true),(7,false),(8,false)] (.one 9 (.rds [(10,false),(11,false)] .done))) rfl (by kernel_rfl) rfl (by kernel_rfl) (fun _ _ d _ _ h=>by cases d<;>exact h) ?_;clear hm;intro w hm;simp only [KT.rds];refine km (fun W hb=>have hm:=hb.own;lda 0 hm rfl rfl rfl (ag rfl)) ?_;refine kq ?_;refine km (fun W hb=>have hm:=hb.own;ld 0 hm rfl rfl rfl (ot rfl) rfl) ?_
 iterate 3 refine kq ?_
 refine km (fun W hb=>have hm:=hb.own;ld 0 hm rfl rfl rfl (ot rfl) rfl) ?_
 iterate 2 refine kq ?_
 ((refine Bo rfl rfl (Aw 0 hm rfl rfl (Ac rfl) rfl (ag rfl) rfl (Dp rfl) ?_)))
 clear hm;intro w hm
 try simp only [puts,s2,List.set,List.eraseIdx,s3] at hm
 refine ⟨But _ _ _ _,fun _ h=>h,But.mk hm,?_⟩
 try simp only [Act.put,s3]
 iterate 2 refine kq ?_
 refine Ba ?_;go_simp
 go_wp2_with fail
 (refine b_r (Ae rfl rfl (hm.row 0 rfl) (ag rfl)) rfl ?_)
 exact ⟨rfl,hm.below⟩
theorem zJ (n:Int) (n0:1<=n) (n1:n<=65536) (c:Int) (hc:1 < c) (w:World):Calls prog 101 #[.int .i64 n,.agg (MS 0 0 0 0 0 0 0),.int .u8 c] w (RB w (.tuple #[.agg (MS 0 0 0 0 0 0 0),.bool false,.int .i64 242])):=by
 have CV:Hid (∀ w,Calls prog 142 #[.int .i64 n,.agg (MS 0 0 0 0 0 0 0)] w (RB w (.bool true))):=h_ fun w=>Sr n n0 n1 w;have CM:Hid (∀ w,Calls prog 138 #[.int .i64 n,.agg (MS 0 0 0 0 0 0 0),.int .u8 c] w (RB w (.tuple #[.agg (MS 1 0 0 0 0 0 0),.bool false]))):=h_ fun w=>A2d n c hc w;go_enter func101,ntmps101;have hm:=Own.nil w
 go_wp2_with (first
  |(with_reducible refine gMm ?_;(refine Ad rfl (BD hm rfl ?_);clear hm;intro w r hm hd))
  |(with_reducible refine gIn ?_;(refine Ad rfl (Bj hm hd rfl (Ac rfl) BP E5 underlying210 kd3 (EY (by decide)) (BA rfl) (EU rfl) ?_);clear hm;intro w hm))
  |(with_reducible refine gBo (t:=211) ?_;(refine A8 rfl (BH rfl (Ac rfl) BP) ?_))
  |(with_reducible refine gLk ?_;(refine A8 rfl (Ez (v:=.func (.func 138) #[] #[]) 0 hm rfl (Ac rfl) (Ac rfl) rfl underlying210 kd3 (EY (by decide)) (BA rfl) (Bh rfl rfl).1 (Bh rfl rfl).2) ?_))
  |(go_at_call 142;refine cB (CV.out _) hm ?_;clear hm;intro w1 hm)
  |(go_at_call 138;refine cB (CM.out _) hm ?_;clear hm;intro w1 hm)
  |(with_reducible refine wl 3 1 hm ?_)
  |(with_reducible (first|refine wla 88 0 hm ?_|refine wla 88 1 hm ?_))
  |(with_reducible (first|refine ws 88 0 hm ?_|refine wu 88 1 hm ?_);clear hm;intro w hm)
  |(with_reducible first|(refine wa 88 hm H9 ?_;clear hm;intro w g hm)|(refine wb hm ?_;clear hm;intro w g hm)))
 (refine b_r (Ae rfl rfl (hm.row 0 rfl) (ag rfl)) rfl ?_)
 exact ⟨rfl,hm.below⟩
theorem zI (n:Int) (n0:1<=n) (n1:n<=65536) (m p:Int) (m0:1<=m) (m1:m<=n) (p0:1<=p) (p1:p<=m) (s k c:Int) (k0:0<=k) (k1:k<=3) (s0:0<=s) (s1:s < 2 ^ (8 * k).toNat) (s2:s < 16777216) (c0:0<=c) (c1:c<=255) (hk:k < 3) (w:World):Calls prog 101 #[.int .i64 n,.agg (MS 3 0 0 m p s k),.int .u8 c] w (RB w (.tuple #[.agg (MS 3 0 0 m p (s * 256+c) (k+1)),.bool false,.int .i64 0])):=by
 have CV:Hid (∀ w,Calls prog 142 #[.int .i64 n,.agg (MS 3 0 0 m p s k)] w (RB w (.bool true))):=h_ fun w=>Yt n n0 n1 m p m0 m1 p0 p1 s k k0 k1 s0 s1 w;have CM:Hid (∀ w,Calls prog 141 #[.int .i64 n,.agg (MS 3 0 0 m p s k),.int .u8 c] w (RB w (.tuple #[.agg (MS 3 0 0 m p (s * 256+c) (k+1)),.bool true]))):=h_ fun w=>qW n 3 m p s k c (by omega) (by omega) k0 hk s0 s2 c0 c1 w;clear s1;go_enter func101,ntmps101;have hm:=Own.nil w
 go_upto_region 8 with (first
  |(with_reducible refine gMm ?_;(refine Ad rfl (BD hm rfl ?_);clear hm;intro w r hm hd))
  |(with_reducible refine gIn ?_;(refine Ad rfl (Bj hm hd rfl (Ac rfl) BP E5 underlying210 kd3 (EY (by decide)) (BA rfl) (EU rfl) ?_);clear hm;intro w hm))
  |(with_reducible refine gBo (t:=211) ?_;(refine A8 rfl (BH rfl (Ac rfl) BP) ?_))
  |(with_reducible refine gLk ?_;(refine A8 rfl (Ez (v:=.func (.func 141) #[] #[]) 0 hm rfl (Ac rfl) (Ac rfl) rfl underlying210 kd3 (EY (by decide)) (BA rfl) (Bh rfl rfl).1 (Bh rfl rfl).2) ?_))
  |(go_at_call 142;refine cB (CV.out _) hm ?_;clear hm;intro w1 hm)
  |(go_at_call 141;refine cB (CM.out _) hm ?_;clear hm;intro w1 hm)
  |(with_reducible first|(refine wl 3 1 hm ?_)|(refine wla 88 1 hm ?_)|(refine wu 88 1 hm ?_;clear hm;intro w hm)|(refine wa 88 hm H9 ?_;clear hm;intro w g hm)|(refine wb hm ?_;clear hm;intro w g hm)))
 refine BQ hm 12 (.rds [(0,true),(1,false),(2,true),(3,false),(4,false),(5,false),(6,true),(7,false),(8,false)] (.one 9 (.rds [(10,false),(11,false)] .done))) rfl (by kernel_rfl) rfl (by kernel_rfl) (fun _ _ d _ _ h=>by cases d<;>exact h) ?_;clear hm;intro w hm;simp only [KT.rds];refine km (fun W hb=>have hm:=hb.own;lda 0 hm rfl rfl rfl (ag rfl)) ?_;refine kq ?_;refine km (fun W hb=>have hm:=hb.own;ld 0 hm rfl rfl rfl (ot rfl) rfl) ?_
 iterate 3 refine kq ?_
 refine km (fun W hb=>have hm:=hb.own;ld 0 hm rfl rfl rfl (ot rfl) rfl) ?_
 iterate 2 refine kq ?_
 ((refine Bo rfl rfl (Aw 0 hm rfl rfl (Ac rfl) rfl (ag rfl) rfl (Dp rfl) ?_)))
 clear hm;intro w hm
 try simp only [puts,s2,List.set,List.eraseIdx,s3] at hm
 refine ⟨But _ _ _ _,fun _ h=>h,But.mk hm,?_⟩
 try simp only [Act.put,s3]
 iterate 2 refine kq ?_
 refine Ba ?_;go_simp
 go_wp2_with fail
 (refine b_r (Ae rfl rfl (hm.row 0 rfl) (ag rfl)) rfl ?_)
 exact ⟨rfl,hm.below⟩
theorem rF (n:Int) (n0:1<=n) (n1:n<=65536) (m p:Int) (m0:1<=m) (m1:m<=n) (p0:1<=p) (p1:p<=m) (s c:Int) (s0:0<=s) (s1:s < 2 ^ (8 * (3:Int)).toNat) (s2:s < 16777216) (c0:0<=c) (c1:c<=255) (w:World):Calls prog 101 #[.int .i64 n,.agg (MS 3 0 0 m p s (3:Int)),.int .u8 c] w (RB w (.tuple #[.agg (MS 4 0 0 m p (s * 256+c) ((3:Int)+1)),.bool true,.int .i64 0])):=by
 have CV:Hid (∀ w,Calls prog 142 #[.int .i64 n,.agg (MS 3 0 0 m p s (3:Int))] w (RB w (.bool true))):=h_ fun w=>Yt n n0 n1 m p m0 m1 p0 p1 s (3:Int) (by decide) (by decide) s0 s1 w;have CM:Hid (∀ w,Calls prog 141 #[.int .i64 n,.agg (MS 3 0 0 m p s (3:Int)),.int .u8 c] w (RB w (.tuple #[.agg (MS 4 0 0 m p (s * 256+c) ((3:Int)+1)),.bool true]))):=h_ fun w=>iq n 3 m p s (3:Int) c (by omega) (by omega) (by decide) rfl s0 s2 c0 c1 w;clear s1;go_enter func101,ntmps101;have hm:=Own.nil w
 go_upto_region 8 with (first
  |(with_reducible refine gMm ?_;(refine Ad rfl (BD hm rfl ?_);clear hm;intro w r hm hd))
  |(with_reducible refine gIn ?_;(refine Ad rfl (Bj hm hd rfl (Ac rfl) BP E5 underlying210 kd3 (EY (by decide)) (BA rfl) (EU rfl) ?_);clear hm;intro w hm))
  |(with_reducible refine gBo (t:=211) ?_;(refine A8 rfl (BH rfl (Ac rfl) BP) ?_))
  |(with_reducible refine gLk ?_;(refine A8 rfl (Ez (v:=.func (.func 141) #[] #[]) 0 hm rfl (Ac rfl) (Ac rfl) rfl underlying210 kd3 (EY (by decide)) (BA rfl) (Bh rfl rfl).1 (Bh rfl rfl).2) ?_))
  |(go_at_call 142;refine cB (CV.out _) hm ?_;clear hm;intro w1 hm)
  |(go_at_call 141;refine cB (CM.out _) hm ?_;clear hm;intro w1 hm)
  |(with_reducible first|(refine wl 3 1 hm ?_)|(refine wla 88 1 hm ?_)|(refine wu 88 1 hm ?_;clear hm;intro w hm)|(refine wa 88 hm H9 ?_;clear hm;intro w g hm)|(refine wb hm ?_;clear hm;intro w g hm)))
 refine BQ hm 12 (.rds [(0,true),(1,false),(2,true),(3,false),(4,false),(5,false),(6,true),(7,false),(8,false)] (.one 9 (.rds [(10,false),(11,false)] .done))) rfl (by kernel_rfl) rfl (by kernel_rfl) (fun _ _ d _ _ h=>by cases d<;>exact h) ?_;clear hm;intro w hm;simp only [KT.rds];refine km (fun W hb=>have hm:=hb.own;lda 0 hm rfl rfl rfl (ag rfl)) ?_;refine kq ?_;refine km (fun W hb=>have hm:=hb.own;ld 0 hm rfl rfl rfl (ot rfl) rfl) ?_
 iterate 2 refine kq ?_
 ((refine Bz rfl rfl ?_))
 try simp only [Act.put,s3]
 ((refine D6 rfl rfl ?_))
 try simp only [Act.put,s3]
 ((refine Bz rfl rfl ?_))
 try simp only [Act.put,s3]
 refine kq ?_
 ((refine Bo rfl rfl (Aw 0 hm rfl rfl (Ac rfl) rfl (ag rfl) rfl (Dp rfl) ?_)))
 clear hm;intro w hm
 try simp only [puts,s2,List.set,List.eraseIdx,s3] at hm
 refine ⟨But _ _ _ _,fun _ h=>h,But.mk hm,?_⟩
 try simp only [Act.put,s3]
 iterate 2 refine kq ?_
 refine Ba ?_;go_simp
 go_wp2_with fail
 (refine b_r (Ae rfl rfl (hm.row 0 rfl) (ag rfl)) rfl ?_)
 exact ⟨rfl,hm.below⟩
theorem rH (n:Int) (n0:1<=n) (n1:n<=65536) (s k c:Int) (k0:0<=k) (k1:k<=3) (s0:0<=s) (s1:s < 2 ^ (8 * k).toNat) (s2:s < 16777216) (c0:0<=c) (c1:c<=255) (hk:k < 3) (w:World):Calls prog 101 #[.int .i64 n,.agg (MS 5 0 0 0 0 s k),.int .u8 c] w (RB w (.tuple #[.agg (MS 5 0 0 0 0 (s * 256+c) (k+1)),.bool false,.int .i64 0])):=by
 have CV:Hid (∀ w,Calls prog 142 #[.int .i64 n,.agg (MS 5 0 0 0 0 s k)] w (RB w (.bool true))):=h_ fun w=>Yr n n0 n1 s k k0 k1 s0 s1 w;have CM:Hid (∀ w,Calls prog 141 #[.int .i64 n,.agg (MS 5 0 0 0 0 s k),.int .u8 c] w (RB w (.tuple #[.agg (MS 5 0 0 0 0 (s * 256+c) (k+1)),.bool true]))):=h_ fun w=>qW n 5 0 0 s k c (by omega) (by omega) k0 hk s0 s2 c0 c1 w;clear s1;go_enter func101,ntmps101;have hm:=Own.nil w
 go_upto_region 8 with (first
  |(with_reducible refine gMm ?_;(refine Ad rfl (BD hm rfl ?_);clear hm;intro w r hm hd))
  |(with_reducible refine gIn ?_;(refine Ad rfl (Bj hm hd rfl (Ac rfl) BP E5 underlying210 kd3 (EY (by decide)) (BA rfl) (EU rfl) ?_);clear hm;intro w hm))
  |(with_reducible refine gBo (t:=211) ?_;(refine A8 rfl (BH rfl (Ac rfl) BP) ?_))
  |(with_reducible refine gLk ?_;(refine A8 rfl (Ez (v:=.func (.func 141) #[] #[]) 0 hm rfl (Ac rfl) (Ac rfl) rfl underlying210 kd3 (EY (by decide)) (BA rfl) (Bh rfl rfl).1 (Bh rfl rfl).2) ?_))
  |(go_at_call 142;refine cB (CV.out _) hm ?_;clear hm;intro w1 hm)
  |(go_at_call 141;refine cB (CM.out _) hm ?_;clear hm;intro w1 hm)
  |(with_reducible first|(refine wl 3 1 hm ?_)|(refine wla 88 1 hm ?_)|(refine wu 88 1 hm ?_;clear hm;intro w hm)|(refine wa 88 hm H9 ?_;clear hm;intro w g hm)|(refine wb hm ?_;clear hm;intro w g hm)))
 refine BQ hm 12 (.rds [(0,true),(1,false),(2,true),(3,false),(4,false),(5,false),(6,true),(7,false),(8,false)] (.one 9 (.rds [(10,false),(11,false)] .done))) rfl (by kernel_rfl) rfl (by kernel_rfl) (fun _ _ d _ _ h=>by cases d<;>exact h) ?_;clear hm;intro w hm;simp only [KT.rds];refine km (fun W hb=>have hm:=hb.own;lda 0 hm rfl rfl rfl (ag rfl)) ?_;refine kq ?_;refine km (fun W hb=>have hm:=hb.own;ld 0 hm rfl rfl rfl (ot rfl) rfl) ?_
 iterate 3 refine kq ?_
 refine km (fun W hb=>have hm:=hb.own;ld 0 hm rfl rfl rfl (ot rfl) rfl) ?_
 iterate 2 refine kq ?_
 ((refine Bo rfl rfl (Aw 0 hm rfl rfl (Ac rfl) rfl (ag rfl) rfl (Dp rfl) ?_)))
 clear hm;intro w hm
 try simp only [puts,s2,List.set,List.eraseIdx,s3] at hm
 refine ⟨But _ _ _ _,fun _ h=>h,But.mk hm,?_⟩
 try simp only [Act.put,s3]
 iterate 2 refine kq ?_
 refine Ba ?_;go_simp
 go_wp2_with fail
 (refine b_r (Ae rfl rfl (hm.row 0 rfl) (ag rfl)) rfl ?_)
 exact ⟨rfl,hm.below⟩
theorem lg (n:Int) (n0:1<=n) (n1:n<=65536) (s c:Int) (s0:0<=s) (s1:s < 2 ^ (8 * (3:Int)).toNat) (s2:s < 16777216) (c0:0<=c) (c1:c<=255) (w:World):Calls prog 101 #[.int .i64 n,.agg (MS 5 0 0 0 0 s (3:Int)),.int .u8 c] w (RB w (.tuple #[.agg (MS 6 0 0 0 0 (s * 256+c) ((3:Int)+1)),.bool true,.int .i64 0])):=by
 have CV:Hid (∀ w,Calls prog 142 #[.int .i64 n,.agg (MS 5 0 0 0 0 s (3:Int))] w (RB w (.bool true))):=h_ fun w=>Yr n n0 n1 s (3:Int) (by decide) (by decide) s0 s1 w;have CM:Hid (∀ w,Calls prog 141 #[.int .i64 n,.agg (MS 5 0 0 0 0 s (3:Int)),.int .u8 c] w (RB w (.tuple #[.agg (MS 6 0 0 0 0 (s * 256+c) ((3:Int)+1)),.bool true]))):=h_ fun w=>iq n 5 0 0 s (3:Int) c (by omega) (by omega) (by decide) rfl s0 s2 c0 c1 w;clear s1;go_enter func101,ntmps101;have hm:=Own.nil w
 go_upto_region 8 with (first
  |(with_reducible refine gMm ?_;(refine Ad rfl (BD hm rfl ?_);clear hm;intro w r hm hd))
  |(with_reducible refine gIn ?_;(refine Ad rfl (Bj hm hd rfl (Ac rfl) BP E5 underlying210 kd3 (EY (by decide)) (BA rfl) (EU rfl) ?_);clear hm;intro w hm))
  |(with_reducible refine gBo (t:=211) ?_;(refine A8 rfl (BH rfl (Ac rfl) BP) ?_))
  |(with_reducible refine gLk ?_;(refine A8 rfl (Ez (v:=.func (.func 141) #[] #[]) 0 hm rfl (Ac rfl) (Ac rfl) rfl underlying210 kd3 (EY (by decide)) (BA rfl) (Bh rfl rfl).1 (Bh rfl rfl).2) ?_))
  |(go_at_call 142;refine cB (CV.out _) hm ?_;clear hm;intro w1 hm)
  |(go_at_call 141;refine cB (CM.out _) hm ?_;clear hm;intro w1 hm)
  |(with_reducible first|(refine wl 3 1 hm ?_)|(refine wla 88 1 hm ?_)|(refine wu 88 1 hm ?_;clear hm;intro w hm)|(refine wa 88 hm H9 ?_;clear hm;intro w g hm)|(refine wb hm ?_;clear hm;intro w g hm)))
 refine BQ hm 12 (.rds [(0,true),(1,false),(2,true),(3,false),(4,false),(5,false),(6,true),(7,false),(8,false)] (.one 9 (.rds [(10,false),(11,false)] .done))) rfl (by kernel_rfl) rfl (by kernel_rfl) (fun _ _ d _ _ h=>by cases d<;>exact h) ?_;clear hm;intro w hm;simp only [KT.rds];refine km (fun W hb=>have hm:=hb.own;lda 0 hm rfl rfl rfl (ag rfl)) ?_;refine kq ?_;refine km (fun W hb=>have hm:=hb.own;ld 0 hm rfl rfl rfl (ot rfl) rfl) ?_
 iterate 3 refine kq ?_
 refine km (fun W hb=>have hm:=hb.own;ld 0 hm rfl rfl rfl (ot rfl) rfl) ?_
 iterate 2 refine kq ?_
 ((refine Bo rfl rfl (Aw 0 hm rfl rfl (Ac rfl) rfl (ag rfl) rfl (Dp rfl) ?_)))
 clear hm;intro w hm
 try simp only [puts,s2,List.set,List.eraseIdx,s3] at hm
 refine ⟨But _ _ _ _,fun _ h=>h,But.mk hm,?_⟩
 try simp only [Act.put,s3]
 iterate 2 refine kq ?_
 refine Ba ?_;go_simp
 go_wp2_with fail
 (refine b_r (Ae rfl rfl (hm.row 0 rfl) (ag rfl)) rfl ?_)
 exact ⟨rfl,hm.below⟩
set_option maxHeartbeats 2000000
set_option maxRecDepth 100000
theorem WA (n:Int) (n0:1<=n) (n1:n<=65536) (V M c:Int) (hv:DX V M=true) (hM0:0<=M) (hM:M<=4) (c0:0<=c) (c1:c<=255) (hV:V<=n) (hd:EZ M c=true) (ho:EL V M c n=true) (w:World):Calls prog 101 #[.int .i64 n,.agg (MS 1 V M 0 0 0 0),.int .u8 c] w (RB w (.tuple #[.agg (MS 2 0 0 (D5 V M c) 0 0 0),.bool false,.int .i64 0])):=by
 have CV:Hid (∀ w,Calls prog 142 #[.int .i64 n,.agg (MS 1 V M 0 0 0 0)] w (RB w (.bool true))):=h_ fun w=>O6 n n0 n1 V M hv hM0 hM hV w;have CM:Hid (∀ w,Calls prog 139 #[.int .i64 n,.agg (MS 1 V M 0 0 0 0),.int .u8 c] w (RB w (.tuple #[.agg (MS 2 0 0 (D5 V M c) 0 0 0),.bool true]))):=h_ fun w=>by have:=YN n n V M c hv hM0 hM c0 c1 hV (by omega) hd w;rwa [ho] at this
 clear hv hd ho;generalize D5 V M c=x at *;generalize EM M c=y at *;go_enter func101,ntmps101;have hm:=Own.nil w
 go_upto_region 8 with (first
  |(with_reducible refine gMm ?_;(refine Ad rfl (BD hm rfl ?_);clear hm;intro w r hm hd))
  |(with_reducible refine gIn ?_;(refine Ad rfl (Bj hm hd rfl (Ac rfl) BP E5 underlying210 kd3 (EY (by decide)) (BA rfl) (EU rfl) ?_);clear hm;intro w hm))
  |(with_reducible refine gBo (t:=211) ?_;(refine A8 rfl (BH rfl (Ac rfl) BP) ?_))
  |(with_reducible refine gLk ?_;(refine A8 rfl (Ez (v:=.func (.func 139) #[] #[]) 0 hm rfl (Ac rfl) (Ac rfl) rfl underlying210 kd3 (EY (by decide)) (BA rfl) (Bh rfl rfl).1 (Bh rfl rfl).2) ?_))
  |(go_at_call 142;refine cB (CV.out _) hm ?_;clear hm;intro w1 hm)
  |(go_at_call 139;refine cB (CM.out _) hm ?_;clear hm;intro w1 hm)
  |(with_reducible first|(refine wl 3 1 hm ?_)|(refine wla 88 1 hm ?_)|(refine wu 88 1 hm ?_;clear hm;intro w hm)|(refine wa 88 hm H9 ?_;clear hm;intro w g hm)|(refine wb hm ?_;clear hm;intro w g hm)))
 refine BQ hm 12 (.rds [(0,true),(1,false),(2,true),(3,false),(4,false),(5,false),(6,true),(7,false),(8,false)] (.one 9 (.rds [(10,false),(11,false)] .done))) rfl (by kernel_rfl) rfl (by kernel_rfl) (fun _ _ d _ _ h=>by cases d<;>exact h) ?_;clear hm;intro w hm;simp only [KT.rds];refine km (fun W hb=>have hm:=hb.own;lda 0 hm rfl rfl rfl (ag rfl)) ?_;refine kq ?_;refine km (fun W hb=>have hm:=hb.own;ld 0 hm rfl rfl rfl (ot rfl) rfl) ?_
 iterate 3 refine kq ?_
 refine km (fun W hb=>have hm:=hb.own;ld 0 hm rfl rfl rfl (ot rfl) rfl) ?_
 iterate 2 refine kq ?_
 ((refine Bo rfl rfl (Aw 0 hm rfl rfl (Ac rfl) rfl (ag rfl) rfl (Dp rfl) ?_)))
 clear hm;intro w hm
 try simp only [puts,s2,List.set,List.eraseIdx,s3] at hm
 refine ⟨But _ _ _ _,fun _ h=>h,But.mk hm,?_⟩
 try simp only [Act.put,s3]
 iterate 2 refine kq ?_
 refine Ba ?_;go_simp
 go_wp2_with fail
 (refine b_r (Ae rfl rfl (hm.row 0 rfl) (ag rfl)) rfl ?_)
 exact ⟨rfl,hm.below⟩
theorem WB (n:Int) (n0:1<=n) (n1:n<=65536) (V M c:Int) (hv:DX V M=true) (hM0:0<=M) (hM:M<=4) (c0:0<=c) (c1:c<=255) (hV:V<=n) (hd:EZ M c=true) (ho:EL V M c n=false) (w:World):Calls prog 101 #[.int .i64 n,.agg (MS 1 V M 0 0 0 0),.int .u8 c] w (RB w (.tuple #[.agg (MS 0 0 0 0 0 0 0),.bool false,.int .i64 242])):=by
 have CV:Hid (∀ w,Calls prog 142 #[.int .i64 n,.agg (MS 1 V M 0 0 0 0)] w (RB w (.bool true))):=h_ fun w=>O6 n n0 n1 V M hv hM0 hM hV w;have CM:Hid (∀ w,Calls prog 139 #[.int .i64 n,.agg (MS 1 V M 0 0 0 0),.int .u8 c] w (RB w (.tuple #[.agg (MS 2 0 0 (D5 V M c) 0 0 0),.bool false]))):=h_ fun w=>by have:=YN n n V M c hv hM0 hM c0 c1 hV (by omega) hd w;rwa [ho] at this
 clear hv hd ho;generalize D5 V M c=x at *;generalize EM M c=y at *;go_enter func101,ntmps101;have hm:=Own.nil w
 go_wp2_with (first
  |(with_reducible refine gMm ?_;(refine Ad rfl (BD hm rfl ?_);clear hm;intro w r hm hd))
  |(with_reducible refine gIn ?_;(refine Ad rfl (Bj hm hd rfl (Ac rfl) BP E5 underlying210 kd3 (EY (by decide)) (BA rfl) (EU rfl) ?_);clear hm;intro w hm))
  |(with_reducible refine gBo (t:=211) ?_;(refine A8 rfl (BH rfl (Ac rfl) BP) ?_))
  |(with_reducible refine gLk ?_;(refine A8 rfl (Ez (v:=.func (.func 139) #[] #[]) 0 hm rfl (Ac rfl) (Ac rfl) rfl underlying210 kd3 (EY (by decide)) (BA rfl) (Bh rfl rfl).1 (Bh rfl rfl).2) ?_))
  |(go_at_call 142;refine cB (CV.out _) hm ?_;clear hm;intro w1 hm)
  |(go_at_call 139;refine cB (CM.out _) hm ?_;clear hm;intro w1 hm)
  |(with_reducible refine wl 3 1 hm ?_)
  |(with_reducible (first|refine wla 88 0 hm ?_|refine wla 88 1 hm ?_))
  |(with_reducible (first|refine ws 88 0 hm ?_|refine wu 88 1 hm ?_);clear hm;intro w hm)
  |(with_reducible first|(refine wa 88 hm H9 ?_;clear hm;intro w g hm)|(refine wb hm ?_;clear hm;intro w g hm)))
 (refine b_r (Ae rfl rfl (hm.row 0 rfl) (ag rfl)) rfl ?_)
 exact ⟨rfl,hm.below⟩
theorem XY (n:Int) (n0:1<=n) (n1:n<=65536) (V M c:Int) (hv:DX V M=true) (hM0:0<=M) (hM:M<=4) (c0:0<=c) (c1:c<=255) (hV:V<=n) (hd:EZ M c=false) (ho:EL V M c n=true) (w:World):Calls prog 101 #[.int .i64 n,.agg (MS 1 V M 0 0 0 0),.int .u8 c] w (RB w (.tuple #[.agg (MS 1 (D5 V M c) (EM M c) 0 0 0 0),.bool false,.int .i64 0])):=by
 have CV:Hid (∀ w,Calls prog 142 #[.int .i64 n,.agg (MS 1 V M 0 0 0 0)] w (RB w (.bool true))):=h_ fun w=>O6 n n0 n1 V M hv hM0 hM hV w;have CM:Hid (∀ w,Calls prog 139 #[.int .i64 n,.agg (MS 1 V M 0 0 0 0),.int .u8 c] w (RB w (.tuple #[.agg (MS 1 (D5 V M c) (EM M c) 0 0 0 0),.bool true]))):=h_ fun w=>by have:=je n n V M c hv hM0 hM c0 c1 hV (by omega) hd w;rwa [ho] at this
 clear hv hd ho;generalize D5 V M c=x at *;generalize EM M c=y at *;go_enter func101,ntmps101;have hm:=Own.nil w
 go_upto_region 8 with (first
  |(with_reducible refine gMm ?_;(refine Ad rfl (BD hm rfl ?_);clear hm;intro w r hm hd))
  |(with_reducible refine gIn ?_;(refine Ad rfl (Bj hm hd rfl (Ac rfl) BP E5 underlying210 kd3 (EY (by decide)) (BA rfl) (EU rfl) ?_);clear hm;intro w hm))
  |(with_reducible refine gBo (t:=211) ?_;(refine A8 rfl (BH rfl (Ac rfl) BP) ?_))
  |(with_reducible refine gLk ?_;(refine A8 rfl (Ez (v:=.func (.func 139) #[] #[]) 0 hm rfl (Ac rfl) (Ac rfl) rfl underlying210 kd3 (EY (by decide)) (BA rfl) (Bh rfl rfl).1 (Bh rfl rfl).2) ?_))
  |(go_at_call 142;refine cB (CV.out _) hm ?_;clear hm;intro w1 hm)
  |(go_at_call 139;refine cB (CM.out _) hm ?_;clear hm;intro w1 hm)
  |(with_reducible first|(refine wl 3 1 hm ?_)|(refine wla 88 1 hm ?_)|(refine wu 88 1 hm ?_;clear hm;intro w hm)|(refine wa 88 hm H9 ?_;clear hm;intro w g hm)|(refine wb hm ?_;clear hm;intro w g hm)))
 refine BQ hm 12 (.rds [(0,true),(1,false),(2,true),(3,false),(4,false),(5,false),(6,true),(7,false),(8,false)] (.one 9 (.rds [(10,false),(11,false)] .done))) rfl (by kernel_rfl) rfl (by kernel_rfl) (fun _ _ d _ _ h=>by cases d<;>exact h) ?_;clear hm;intro w hm;simp only [KT.rds];refine km (fun W hb=>have hm:=hb.own;lda 0 hm rfl rfl rfl (ag rfl)) ?_;refine kq ?_;refine km (fun W hb=>have hm:=hb.own;ld 0 hm rfl rfl rfl (ot rfl) rfl) ?_
 iterate 3 refine kq ?_
 refine km (fun W hb=>have hm:=hb.own;ld 0 hm rfl rfl rfl (ot rfl) rfl) ?_
 iterate 2 refine kq ?_
 ((refine Bo rfl rfl (Aw 0 hm rfl rfl (Ac rfl) rfl (ag rfl) rfl (Dp rfl) ?_)))
 clear hm;intro w hm
 try simp only [puts,s2,List.set,List.eraseIdx,s3] at hm
 refine ⟨But _ _ _ _,fun _ h=>h,But.mk hm,?_⟩
 try simp only [Act.put,s3]
 iterate 2 refine kq ?_
 refine Ba ?_;go_simp
 go_wp2_with fail
 (refine b_r (Ae rfl rfl (hm.row 0 rfl) (ag rfl)) rfl ?_)
 exact ⟨rfl,hm.below⟩
theorem XZ (n:Int) (n0:1<=n) (n1:n<=65536) (V M c:Int) (hv:DX V M=true) (hM0:0<=M) (hM:M<=4) (c0:0<=c) (c1:c<=255) (hV:V<=n) (hd:EZ M c=false) (ho:EL V M c n=false) (w:World):Calls prog 101 #[.int .i64 n,.agg (MS 1 V M 0 0 0 0),.int .u8 c] w (RB w (.tuple #[.agg (MS 0 0 0 0 0 0 0),.bool false,.int .i64 242])):=by
 have CV:Hid (∀ w,Calls prog 142 #[.int .i64 n,.agg (MS 1 V M 0 0 0 0)] w (RB w (.bool true))):=h_ fun w=>O6 n n0 n1 V M hv hM0 hM hV w;have CM:Hid (∀ w,Calls prog 139 #[.int .i64 n,.agg (MS 1 V M 0 0 0 0),.int .u8 c] w (RB w (.tuple #[.agg (MS 1 (D5 V M c) (EM M c) 0 0 0 0),.bool false]))):=h_ fun w=>by have:=je n n V M c hv hM0 hM c0 c1 hV (by omega) hd w;rwa [ho] at this
 clear hv hd ho;generalize D5 V M c=x at *;generalize EM M c=y at *;go_enter func101,ntmps101;have hm:=Own.nil w
 go_wp2_with (first
  |(with_reducible refine gMm ?_;(refine Ad rfl (BD hm rfl ?_);clear hm;intro w r hm hd))
  |(with_reducible refine gIn ?_;(refine Ad rfl (Bj hm hd rfl (Ac rfl) BP E5 underlying210 kd3 (EY (by decide)) (BA rfl) (EU rfl) ?_);clear hm;intro w hm))
  |(with_reducible refine gBo (t:=211) ?_;(refine A8 rfl (BH rfl (Ac rfl) BP) ?_))
  |(with_reducible refine gLk ?_;(refine A8 rfl (Ez (v:=.func (.func 139) #[] #[]) 0 hm rfl (Ac rfl) (Ac rfl) rfl underlying210 kd3 (EY (by decide)) (BA rfl) (Bh rfl rfl).1 (Bh rfl rfl).2) ?_))
  |(go_at_call 142;refine cB (CV.out _) hm ?_;clear hm;intro w1 hm)
  |(go_at_call 139;refine cB (CM.out _) hm ?_;clear hm;intro w1 hm)
  |(with_reducible refine wl 3 1 hm ?_)
  |(with_reducible (first|refine wla 88 0 hm ?_|refine wla 88 1 hm ?_))
  |(with_reducible (first|refine ws 88 0 hm ?_|refine wu 88 1 hm ?_);clear hm;intro w hm)
  |(with_reducible first|(refine wa 88 hm H9 ?_;clear hm;intro w g hm)|(refine wb hm ?_;clear hm;intro w g hm)))
 (refine b_r (Ae rfl rfl (hm.row 0 rfl) (ag rfl)) rfl ?_)
 exact ⟨rfl,hm.below⟩
theorem UA (n:Int) (n0:1<=n) (n1:n<=65536) (m:Int) (m0:1<=m) (m1:m<=n) (V M c:Int) (hv:DX V M=true) (hM0:0<=M) (hM:M<=4) (c0:0<=c) (c1:c<=255) (hV:V<=m) (hd:EZ M c=true) (ho:EL V M c m=true) (w:World):Calls prog 101 #[.int .i64 n,.agg (MS 2 V M m 0 0 0),.int .u8 c] w (RB w (.tuple #[.agg (MS 3 0 0 m (D5 V M c) 0 0),.bool false,.int .i64 0])):=by
 have CV:Hid (∀ w,Calls prog 142 #[.int .i64 n,.agg (MS 2 V M m 0 0 0)] w (RB w (.bool true))):=h_ fun w=>O5 n n0 n1 V M m m0 m1 hv hM0 hM hV w;have CM:Hid (∀ w,Calls prog 140 #[.int .i64 n,.agg (MS 2 V M m 0 0 0),.int .u8 c] w (RB w (.tuple #[.agg (MS 3 0 0 m (D5 V M c) 0 0),.bool true]))):=h_ fun w=>by have:=Vz n m V M c hv hM0 hM c0 c1 hV (by omega) hd w;rwa [ho] at this
 clear hv hd ho;generalize D5 V M c=x at *;generalize EM M c=y at *;go_enter func101,ntmps101;have hm:=Own.nil w
 go_upto_region 8 with (first
  |(with_reducible refine gMm ?_;(refine Ad rfl (BD hm rfl ?_);clear hm;intro w r hm hd))
  |(with_reducible refine gIn ?_;(refine Ad rfl (Bj hm hd rfl (Ac rfl) BP E5 underlying210 kd3 (EY (by decide)) (BA rfl) (EU rfl) ?_);clear hm;intro w hm))
  |(with_reducible refine gBo (t:=211) ?_;(refine A8 rfl (BH rfl (Ac rfl) BP) ?_))
  |(with_reducible refine gLk ?_;(refine A8 rfl (Ez (v:=.func (.func 140) #[] #[]) 0 hm rfl (Ac rfl) (Ac rfl) rfl underlying210 kd3 (EY (by decide)) (BA rfl) (Bh rfl rfl).1 (Bh rfl rfl).2) ?_))
  |(go_at_call 142;refine cB (CV.out _) hm ?_;clear hm;intro w1 hm)
  |(go_at_call 140;refine cB (CM.out _) hm ?_;clear hm;intro w1 hm)
  |(with_reducible first|(refine wl 3 1 hm ?_)|(refine wla 88 1 hm ?_)|(refine wu 88 1 hm ?_;clear hm;intro w hm)|(refine wa 88 hm H9 ?_;clear hm;intro w g hm)|(refine wb hm ?_;clear hm;intro w g hm)))
 refine BQ hm 12 (.rds [(0,true),(1,false),(2,true),(3,false),(4,false),(5,false),(6,true),(7,false),(8,false)] (.one 9 (.rds [(10,false),(11,false)] .done))) rfl (by kernel_rfl) rfl (by kernel_rfl) (fun _ _ d _ _ h=>by cases d<;>exact h) ?_;clear hm;intro w hm;simp only [KT.rds];refine km (fun W hb=>have hm:=hb.own;lda 0 hm rfl rfl rfl (ag rfl)) ?_;refine kq ?_;refine km (fun W hb=>have hm:=hb.own;ld 0 hm rfl rfl rfl (ot rfl) rfl) ?_
 iterate 3 refine kq ?_
 refine km (fun W hb=>have hm:=hb.own;ld 0 hm rfl rfl rfl (ot rfl) rfl) ?_
 iterate 2 refine kq ?_
 ((refine Bo rfl rfl (Aw 0 hm rfl rfl (Ac rfl) rfl (ag rfl) rfl (Dp rfl) ?_)))
 clear hm;intro w hm
 try simp only [puts,s2,List.set,List.eraseIdx,s3] at hm
 refine ⟨But _ _ _ _,fun _ h=>h,But.mk hm,?_⟩
 try simp only [Act.put,s3]
 iterate 2 refine kq ?_
 refine Ba ?_;go_simp
 go_wp2_with fail
 (refine b_r (Ae rfl rfl (hm.row 0 rfl) (ag rfl)) rfl ?_)
 exact ⟨rfl,hm.below⟩
theorem UC (n:Int) (n0:1<=n) (n1:n<=65536) (m:Int) (m0:1<=m) (m1:m<=n) (V M c:Int) (hv:DX V M=true) (hM0:0<=M) (hM:M<=4) (c0:0<=c) (c1:c<=255) (hV:V<=m) (hd:EZ M c=true) (ho:EL V M c m=false) (w:World):Calls prog 101 #[.int .i64 n,.agg (MS 2 V M m 0 0 0),.int .u8 c] w (RB w (.tuple #[.agg (MS 0 0 0 0 0 0 0),.bool false,.int .i64 242])):=by
 have CV:Hid (∀ w,Calls prog 142 #[.int .i64 n,.agg (MS 2 V M m 0 0 0)] w (RB w (.bool true))):=h_ fun w=>O5 n n0 n1 V M m m0 m1 hv hM0 hM hV w;have CM:Hid (∀ w,Calls prog 140 #[.int .i64 n,.agg (MS 2 V M m 0 0 0),.int .u8 c] w (RB w (.tuple #[.agg (MS 3 0 0 m (D5 V M c) 0 0),.bool false]))):=h_ fun w=>by have:=Vz n m V M c hv hM0 hM c0 c1 hV (by omega) hd w;rwa [ho] at this
 clear hv hd ho;generalize D5 V M c=x at *;generalize EM M c=y at *;go_enter func101,ntmps101;have hm:=Own.nil w
 go_wp2_with (first
  |(with_reducible refine gMm ?_;(refine Ad rfl (BD hm rfl ?_);clear hm;intro w r hm hd))
  |(with_reducible refine gIn ?_;(refine Ad rfl (Bj hm hd rfl (Ac rfl) BP E5 underlying210 kd3 (EY (by decide)) (BA rfl) (EU rfl) ?_);clear hm;intro w hm))
  |(with_reducible refine gBo (t:=211) ?_;(refine A8 rfl (BH rfl (Ac rfl) BP) ?_))
  |(with_reducible refine gLk ?_;(refine A8 rfl (Ez (v:=.func (.func 140) #[] #[]) 0 hm rfl (Ac rfl) (Ac rfl) rfl underlying210 kd3 (EY (by decide)) (BA rfl) (Bh rfl rfl).1 (Bh rfl rfl).2) ?_))
  |(go_at_call 142;refine cB (CV.out _) hm ?_;clear hm;intro w1 hm)
  |(go_at_call 140;refine cB (CM.out _) hm ?_;clear hm;intro w1 hm)
  |(with_reducible refine wl 3 1 hm ?_)
  |(with_reducible (first|refine wla 88 0 hm ?_|refine wla 88 1 hm ?_))
  |(with_reducible (first|refine ws 88 0 hm ?_|refine wu 88 1 hm ?_);clear hm;intro w hm)
  |(with_reducible first|(refine wa 88 hm H9 ?_;clear hm;intro w g hm)|(refine wb hm ?_;clear hm;intro w g hm)))
 (refine b_r (Ae rfl rfl (hm.row 0 rfl) (ag rfl)) rfl ?_)
 exact ⟨rfl,hm.below⟩
theorem WG (n:Int) (n0:1<=n) (n1:n<=65536) (m:Int) (m0:1<=m) (m1:m<=n) (V M c:Int) (hv:DX V M=true) (hM0:0<=M) (hM:M<=4) (c0:0<=c) (c1:c<=255) (hV:V<=m) (hd:EZ M c=false) (ho:EL V M c m=true) (w:World):Calls prog 101 #[.int .i64 n,.agg (MS 2 V M m 0 0 0),.int .u8 c] w (RB w (.tuple #[.agg (MS 2 (D5 V M c) (EM M c) m 0 0 0),.bool false,.int .i64 0])):=by
 have CV:Hid (∀ w,Calls prog 142 #[.int .i64 n,.agg (MS 2 V M m 0 0 0)] w (RB w (.bool true))):=h_ fun w=>O5 n n0 n1 V M m m0 m1 hv hM0 hM hV w;have CM:Hid (∀ w,Calls prog 140 #[.int .i64 n,.agg (MS 2 V M m 0 0 0),.int .u8 c] w (RB w (.tuple #[.agg (MS 2 (D5 V M c) (EM M c) m 0 0 0),.bool true]))):=h_ fun w=>by have:=Z9 n m V M c hv hM0 hM c0 c1 hV (by omega) hd w;rwa [ho] at this
 clear hv hd ho;generalize D5 V M c=x at *;generalize EM M c=y at *;go_enter func101,ntmps101;have hm:=Own.nil w
 go_upto_region 8 with (first
  |(with_reducible refine gMm ?_;(refine Ad rfl (BD hm rfl ?_);clear hm;intro w r hm hd))
  |(with_reducible refine gIn ?_;(refine Ad rfl (Bj hm hd rfl (Ac rfl) BP E5 underlying210 kd3 (EY (by decide)) (BA rfl) (EU rfl) ?_);clear hm;intro w hm))
  |(with_reducible refine gBo (t:=211) ?_;(refine A8 rfl (BH rfl (Ac rfl) BP) ?_))
  |(with_reducible refine gLk ?_;(refine A8 rfl (Ez (v:=.func (.func 140) #[] #[]) 0 hm rfl (Ac rfl) (Ac rfl) rfl underlying210 kd3 (EY (by decide)) (BA rfl) (Bh rfl rfl).1 (Bh rfl rfl).2) ?_))
  |(go_at_call 142;refine cB (CV.out _) hm ?_;clear hm;intro w1 hm)
  |(go_at_call 140;refine cB (CM.out _) hm ?_;clear hm;intro w1 hm)
  |(with_reducible first|(refine wl 3 1 hm ?_)|(refine wla 88 1 hm ?_)|(refine wu 88 1 hm ?_;clear hm;intro w hm)|(refine wa 88 hm H9 ?_;clear hm;intro w g hm)|(refine wb hm ?_;clear hm;intro w g hm)))
 refine BQ hm 12 (.rds [(0,true),(1,false),(2,true),(3,false),(4,false),(5,false),(6,true),(7,false),(8,false)] (.one 9 (.rds [(10,false),(11,false)] .done))) rfl (by kernel_rfl) rfl (by kernel_rfl) (fun _ _ d _ _ h=>by cases d<;>exact h) ?_;clear hm;intro w hm;simp only [KT.rds];refine km (fun W hb=>have hm:=hb.own;lda 0 hm rfl rfl rfl (ag rfl)) ?_;refine kq ?_;refine km (fun W hb=>have hm:=hb.own;ld 0 hm rfl rfl rfl (ot rfl) rfl) ?_
 iterate 3 refine kq ?_
 refine km (fun W hb=>have hm:=hb.own;ld 0 hm rfl rfl rfl (ot rfl) rfl) ?_
 iterate 2 refine kq ?_
 ((refine Bo rfl rfl (Aw 0 hm rfl rfl (Ac rfl) rfl (ag rfl) rfl (Dp rfl) ?_)))
 clear hm;intro w hm
 try simp only [puts,s2,List.set,List.eraseIdx,s3] at hm
 refine ⟨But _ _ _ _,fun _ h=>h,But.mk hm,?_⟩
 try simp only [Act.put,s3]
 iterate 2 refine kq ?_
 refine Ba ?_;go_simp
 go_wp2_with fail
 (refine b_r (Ae rfl rfl (hm.row 0 rfl) (ag rfl)) rfl ?_)
 exact ⟨rfl,hm.below⟩
theorem WH (n:Int) (n0:1<=n) (n1:n<=65536) (m:Int) (m0:1<=m) (m1:m<=n) (V M c:Int) (hv:DX V M=true) (hM0:0<=M) (hM:M<=4) (c0:0<=c) (c1:c<=255) (hV:V<=m) (hd:EZ M c=false) (ho:EL V M c m=false) (w:World):Calls prog 101 #[.int .i64 n,.agg (MS 2 V M m 0 0 0),.int .u8 c] w (RB w (.tuple #[.agg (MS 0 0 0 0 0 0 0),.bool false,.int .i64 242])):=by
 have CV:Hid (∀ w,Calls prog 142 #[.int .i64 n,.agg (MS 2 V M m 0 0 0)] w (RB w (.bool true))):=h_ fun w=>O5 n n0 n1 V M m m0 m1 hv hM0 hM hV w;have CM:Hid (∀ w,Calls prog 140 #[.int .i64 n,.agg (MS 2 V M m 0 0 0),.int .u8 c] w (RB w (.tuple #[.agg (MS 2 (D5 V M c) (EM M c) m 0 0 0),.bool false]))):=h_ fun w=>by have:=Z9 n m V M c hv hM0 hM c0 c1 hV (by omega) hd w;rwa [ho] at this
 clear hv hd ho;generalize D5 V M c=x at *;generalize EM M c=y at *;go_enter func101,ntmps101;have hm:=Own.nil w
 go_wp2_with (first
  |(with_reducible refine gMm ?_;(refine Ad rfl (BD hm rfl ?_);clear hm;intro w r hm hd))
  |(with_reducible refine gIn ?_;(refine Ad rfl (Bj hm hd rfl (Ac rfl) BP E5 underlying210 kd3 (EY (by decide)) (BA rfl) (EU rfl) ?_);clear hm;intro w hm))
  |(with_reducible refine gBo (t:=211) ?_;(refine A8 rfl (BH rfl (Ac rfl) BP) ?_))
  |(with_reducible refine gLk ?_;(refine A8 rfl (Ez (v:=.func (.func 140) #[] #[]) 0 hm rfl (Ac rfl) (Ac rfl) rfl underlying210 kd3 (EY (by decide)) (BA rfl) (Bh rfl rfl).1 (Bh rfl rfl).2) ?_))
  |(go_at_call 142;refine cB (CV.out _) hm ?_;clear hm;intro w1 hm)
  |(go_at_call 140;refine cB (CM.out _) hm ?_;clear hm;intro w1 hm)
  |(with_reducible refine wl 3 1 hm ?_)
  |(with_reducible (first|refine wla 88 0 hm ?_|refine wla 88 1 hm ?_))
  |(with_reducible (first|refine ws 88 0 hm ?_|refine wu 88 1 hm ?_);clear hm;intro w hm)
  |(with_reducible first|(refine wa 88 hm H9 ?_;clear hm;intro w g hm)|(refine wb hm ?_;clear hm;intro w g hm)))
 (refine b_r (Ae rfl rfl (hm.row 0 rfl) (ag rfl)) rfl ?_)
 exact ⟨rfl,hm.below⟩
set_option maxHeartbeats 400000
variable {M c most n s:Int} {k:Nat}
structure VM (V M most:Int):Prop where
 val:DX V M=true
 m0:0<=M
 m4:M<=4
 le:V<=most
theorem VM.zero (h:0<=most):VM 0 0 most:=⟨by decide,by decide,by decide,h⟩
theorem VM.next {V:Int} (h:VM V M most) (hm:most<=65536) (c0:0<=c) (c1:c<=255) (ho:EL V M c most=true) (hd:EZ M c=false):VM (D5 V M c) (EM M c) most:=by
 obtain ⟨hv,h0,h4,hl⟩:=h;have hle:=gW hv (by omega) h0 h4;simp only [EL,decide_eq_true_eq] at ho;simp only [EZ,decide_eq_false_iff_not] at hd
 have hc:128<=c:=by
  by_cases h:c < 128
  ·exact (hd ⟨ho.1,h⟩).elim
  ·omega
 rw [D5,EM,if_neg ho.1,if_neg ho.1];refine ⟨?_,by omega,by omega,ho.2.1⟩;have e:M=0\/M=1\/M=2\/M=3:=by omega
 have hx:0<=c % 128/\c % 128 < 128:=by omega
 have hy:c - 128=c % 128:=by omega
 rcases e with rfl|rfl|rfl|rfl
 ·have hV:V=0:=by simpa [DX] using hv
  have hne:c ≠ 128:=fun h=>ho.1 ⟨h,rfl⟩;simp [DX,vnx,hV];omega
 ·have hv:(1:Int)<=V/\V < 128:=of_decide_eq_true hv;exact decide_eq_true (show (128:Int)<=vnx V c/\vnx V c < 16384 by rw [vnx];omega)
 ·have hv:(128:Int)<=V/\V < 16384:=of_decide_eq_true hv;exact decide_eq_true (show (16384:Int)<=vnx V c/\vnx V c < 2097152 by rw [vnx];omega)
 ·have hv:(16384:Int)<=V/\V < 2097152:=of_decide_eq_true hv;exact decide_eq_true (show (2097152:Int)<=vnx V c/\vnx V c < 268435456 by rw [vnx];omega)
theorem VM.done {V:Int} (h:VM V M most) (ho:EL V M c most=true) (hd:EZ M c=true):1<=D5 V M c/\D5 V M c<=most:=by
 simp only [EL,decide_eq_true_eq] at ho;simp only [EZ,decide_eq_true_eq] at hd;rw [D5,if_neg ho.1];have:=hd.2;omega
structure HT where
 a:Int
 V:Int
 M:Int
def HT.v (t:HT):A_:=HS t.a t.V t.M 0
def HT.ok (t:HT):Prop:=(0<=t.a/\t.a<=2/\t.V=0/\t.M=0)\/t.a=3/\VM t.V t.M 65536
inductive HR where
|go (t:HT)
|done (n:Int)
|bad (e:Int)
def HT.step (t:HT) (c:Int):HR :=
 if t.a=0 then (if c=87 then .go ⟨1,0,0⟩ else .bad 240)
 else if t.a=1 then (if c=80 then .go ⟨2,0,0⟩ else .bad 240)
 else if t.a=2 then (if c=1 then .go ⟨3,0,0⟩ else .bad 241)
 else if EL t.V t.M c 65536 then (if EZ t.M c then .done (D5 t.V t.M c) else .go ⟨3,D5 t.V t.M c,EM t.M c⟩) else .bad 242
def HR.val:HR->Value
|.go t=>.tuple #[.agg t.v,.bool false,.int .i64 0]
|.done n=>.tuple #[.agg (HS 4 0 0 n),.bool true,.int .i64 0]
|.bad e=>.tuple #[.agg (HS 0 0 0 0),.bool false,.int .i64 e]
def HR.ok:HR->Prop
|.go t=>t.ok
|.done n=>1<=n/\n<=65536
|.bad e=>e=240\/e=241\/e=242
theorem HT.step_ok {t:HT} (h:t.ok) (c0:0<=c) (c1:c<=255):(t.step c).ok:=by
 obtain ⟨a,V,M⟩:=t;simp only [HT.ok] at h;simp only [HT.step];by_cases h0:a=0
 ·rw [if_pos h0];split
  ·exact .inl ⟨by simp,by simp,rfl,rfl⟩
  ·exact .inl rfl
 rw [if_neg h0];by_cases h1:a=1
 ·rw [if_pos h1];split
  ·exact .inl ⟨by simp,by simp,rfl,rfl⟩
  ·exact .inl rfl
 rw [if_neg h1];by_cases h2:a=2
 ·rw [if_pos h2];split
  ·exact .inr ⟨rfl,VM.zero (by decide)⟩
  ·exact .inr (.inl rfl)
 rw [if_neg h2];rcases h with h|⟨_,hv⟩
 ·omega
 split
 ·rename_i ho;split
  ·rename_i hd;exact hv.done ho hd
  ·rename_i hd;exact .inr ⟨rfl,hv.next (by decide) c0 c1 ho (by simpa using hd)⟩
 ·exact .inr (.inr rfl)
theorem VA (t:HT) (h:t.ok) (c:Int) (c0:0<=c) (c1:c<=255) (w:World):Calls prog 98 #[.agg t.v,.int .u8 c] w fun x w'=>(x=.returned (t.step c).val)/\Below w.heap.size w w':=by
 obtain ⟨a,V,M⟩:=t;simp only [HT.ok] at h;simp only [HT.v,HT.step];rcases h with ⟨a0,a2,rfl,rfl⟩|⟨rfl,hv⟩
 ·have e:a=0\/a=1\/a=2:=by omega
  rcases e with rfl|rfl|rfl
  ·rw [if_pos rfl];by_cases hc:c=87
   ·rw [if_pos hc,hc];exact vU w
   ·rw [if_neg hc];exact vN c hc w
  ·rw [if_neg (by decide),if_pos rfl];by_cases hc:c=80
   ·rw [if_pos hc,hc];exact vS w
   ·rw [if_neg hc];exact vM c hc w
  ·rw [if_neg (by decide),if_neg (by decide),if_pos rfl];by_cases hc:c=1
   ·rw [if_pos hc,hc];exact vP w
   ·rw [if_neg hc];exact vK c hc w
 ·rw [if_neg (by decide),if_neg (by decide),if_neg (by decide)];cases ho:EL V M c 65536 with
 |false=>rw [if_neg (by decide)];exact vO V M c hv.val hv.m0 hv.m4 hv.le c0 c1 ho w
 |true =>
   rw [if_pos rfl];cases hd:EZ M c with
  |true=>rw [if_pos rfl];exact nD V M c hv.val hv.m0 hv.m4 hv.le c0 c1 ho hd w
  |false=>rw [if_neg (by decide)];exact vW V M c hv.val hv.m0 hv.m4 hv.le c0 c1 ho hd w
inductive MT where
|mark
|mm (V M:Int)
|pp (m V M:Int)
|sum (m p s:Int) (k:Nat)
|last (s:Int) (k:Nat)
def MT.v:MT->A_
|.mark=>MS 0 0 0 0 0 0 0
|.mm V M=>MS 1 V M 0 0 0 0
|.pp m V M=>MS 2 V M m 0 0 0
|.sum m p s k=>MS 3 0 0 m p s k
|.last s k=>MS 5 0 0 0 0 s k
def MT.ok (n:Int):MT->Prop
|.mark=>True
|.mm V M=>VM V M n
|.pp m V M=>1<=m/\m<=n/\VM V M m
|.sum m p s k=>1<=m/\m<=n/\1<=p/\p<=m/\k<=3/\0<=s/\s < 2 ^ (8 * k)
|.last s k=>k<=3/\0<=s/\s < 2 ^ (8 * k)
inductive MR where
|go (t:MT)
|block (m p s:Int)
|tail (s:Int)
|bad
def MT.step (n:Int) (c:Int):MT->MR
|.mark=>if c=0 then .go (.last 0 0) else if c=1 then .go (.mm 0 0) else .bad
|.mm V M=>if EL V M c n then (if EZ M c then .go (.pp (D5 V M c) 0 0) else .go (.mm (D5 V M c) (EM M c))) else .bad
|.pp m V M=>if EL V M c m then (if EZ M c then .go (.sum m (D5 V M c) 0 0) else .go (.pp m (D5 V M c) (EM M c))) else .bad
|.sum m p s k=>if k=3 then .block m p (s * 256+c) else .go (.sum m p (s * 256+c) (k+1))
|.last s k=>if k=3 then .tail (s * 256+c) else .go (.last (s * 256+c) (k+1))
def MR.val:MR->Value
|.go t=>.tuple #[.agg t.v,.bool false,.int .i64 0]
|.block m p s=>.tuple #[.agg (MS 4 0 0 m p s 4),.bool true,.int .i64 0]
|.tail s=>.tuple #[.agg (MS 6 0 0 0 0 s 4),.bool true,.int .i64 0]
|.bad=>.tuple #[.agg (MS 0 0 0 0 0 0 0),.bool false,.int .i64 242]
def MR.ok (n:Int):MR->Prop
|.go t=>t.ok n
|.block m p s=>1<=m/\m<=n/\1<=p/\p<=m/\0<=s/\s < 4294967296
|.tail s=>0<=s/\s < 4294967296
|.bad=>True
theorem iH (h0:0<=s) (h1:s < 2 ^ (8 * k)) (c0:0<=c) (c1:c<=255):0<=s * 256+c/\s * 256+c < 2 ^ (8 * (k+1)):=by
 rw [show 8 * (k+1)=8 * k+8 by omega,Int.pow_add];have e:(2:Int) ^ 8=256:=by decide
 rw [e];omega
theorem QL (hk:k<=3) (h1:s < 2 ^ (8 * k)):s < 16777216:=by
 have e:k=0\/k=1\/k=2\/k=3:=by omega
 rcases e with rfl|rfl|rfl|rfl<;>simp at h1<;>omega
theorem MT.step_ok (n1:1<=n) (n2:n<=65536) {t:MT} (h:t.ok n) (c0:0<=c) (c1:c<=255):(t.step n c).ok n:=by
 cases t with
|mark =>
  simp only [MT.step];split
  ·exact ⟨by omega,by omega,by decide⟩
  ·split
   ·exact VM.zero (by omega)
   ·trivial
|mm V M =>
  simp only [MT.step];simp only [MT.ok] at h;split
  ·rename_i ho;split
   ·rename_i hd;have:=h.done ho hd;exact ⟨this.1,this.2,VM.zero (by omega)⟩
   ·rename_i hd;exact h.next n2 c0 c1 ho (by simpa using hd)
  ·trivial
|pp m V M =>
  simp only [MT.step];simp only [MT.ok] at h;split
  ·rename_i ho;split
   ·rename_i hd;have:=h.2.2.done ho hd;exact ⟨h.1,h.2.1,this.1,this.2,by omega,by omega,by decide⟩
   ·rename_i hd;exact ⟨h.1,h.2.1,h.2.2.next (by omega) c0 c1 ho (by simpa using hd)⟩
  ·trivial
|sum m p s k =>
  simp only [MT.step];simp only [MT.ok] at h;have hp:=iH (k:=k) h.2.2.2.2.2.1 h.2.2.2.2.2.2 c0 c1;split
  ·rename_i hk;subst hk;exact ⟨h.1,h.2.1,h.2.2.1,h.2.2.2.1,hp.1,by simpa using hp.2⟩
  ·exact ⟨h.1,h.2.1,h.2.2.1,h.2.2.2.1,by omega,hp.1,hp.2⟩
|last s k =>
  simp only [MT.step];simp only [MT.ok] at h;have hp:=iH (k:=k) h.2.1 h.2.2 c0 c1;split
  ·rename_i hk;subst hk;exact ⟨hp.1,by simpa using hp.2⟩
  ·exact ⟨by omega,hp.1,hp.2⟩
theorem Vo (n:Int) (n1:1<=n) (n2:n<=65536) (t:MT) (h:t.ok n) (c:Int) (c0:0<=c) (c1:c<=255) (w:World):Calls prog 101 #[.int .i64 n,.agg t.v,.int .u8 c] w fun x w'=>(x=.returned (t.step n c).val)/\Below w.heap.size w w':=by
 cases t with
|mark =>
  simp only [MT.step,MT.v];by_cases h0:c=0
  ·rw [if_pos h0,h0];exact zL n n1 n2 w
  ·rw [if_neg h0];by_cases h1:c=1
   ·rw [if_pos h1,h1];exact zK n n1 n2 w
   ·rw [if_neg h1];exact zJ n n1 n2 c (by omega) w
|mm V M =>
  simp only [MT.step,MT.v];simp only [MT.ok] at h;cases ho:EL V M c n with
 |false =>
   rw [if_neg (by decide)];cases hd:EZ M c with
  |true=>exact WB n n1 n2 V M c h.val h.m0 h.m4 c0 c1 h.le hd ho w
  |false=>exact XZ n n1 n2 V M c h.val h.m0 h.m4 c0 c1 h.le hd ho w
 |true =>
   rw [if_pos rfl];cases hd:EZ M c with
  |true=>rw [if_pos rfl];exact WA n n1 n2 V M c h.val h.m0 h.m4 c0 c1 h.le hd ho w
  |false=>rw [if_neg (by decide)];exact XY n n1 n2 V M c h.val h.m0 h.m4 c0 c1 h.le hd ho w
|pp m V M =>
  simp only [MT.step,MT.v];simp only [MT.ok] at h;obtain ⟨m0,m1,h⟩:=h;cases ho:EL V M c m with
 |false =>
   rw [if_neg (by decide)];cases hd:EZ M c with
  |true=>exact UC n n1 n2 m m0 m1 V M c h.val h.m0 h.m4 c0 c1 h.le hd ho w
  |false=>exact WH n n1 n2 m m0 m1 V M c h.val h.m0 h.m4 c0 c1 h.le hd ho w
 |true =>
   rw [if_pos rfl];cases hd:EZ M c with
  |true=>rw [if_pos rfl];exact UA n n1 n2 m m0 m1 V M c h.val h.m0 h.m4 c0 c1 h.le hd ho w
  |false=>rw [if_neg (by decide)];exact WG n n1 n2 m m0 m1 V M c h.val h.m0 h.m4 c0 c1 h.le hd ho w
|sum m p s k =>
  simp only [MT.step,MT.v];simp only [MT.ok] at h;obtain ⟨m0,m1,p0,p1,hk,s0,s1⟩:=h;by_cases h3:k=3
  ·subst h3;rw [if_pos rfl];exact rF n n1 n2 m p m0 m1 p0 p1 s c s0 s1 (QL hk s1) c0 c1 w
  ·rw [if_neg h3];exact zI n n1 n2 m p m0 m1 p0 p1 s k c (by omega) (by omega) s0 (by rw [show (8 * (k:Int)).toNat=8 * k by omega];exact s1) (QL hk s1) c0 c1 (by omega) w
|last s k =>
  simp only [MT.step,MT.v];simp only [MT.ok] at h;obtain ⟨hk,s0,s1⟩:=h;by_cases h3:k=3
  ·subst h3;rw [if_pos rfl];exact lg n n1 n2 s c s0 s1 (QL hk s1) c0 c1 w
  ·rw [if_neg h3];exact rH n n1 n2 s k c (by omega) (by omega) s0 (by rw [show (8 * (k:Int)).toNat=8 * k by omega];exact s1) (QL hk s1) c0 c1 (by omega) w
end Go.Proofs.YtkpbhdhkdonghaaGreat
