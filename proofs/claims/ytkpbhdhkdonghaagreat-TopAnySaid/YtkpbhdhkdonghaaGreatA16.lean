/-
  Part 16 of the proof.
-/
import Derived.Test.YtkpbhdhkdonghaaGreatA13
import Derived.Test.YtkpbhdhkdonghaaGreatA15
set_option linter.all false
set_option maxHeartbeats 1000000
set_option maxRecDepth 100000
namespace Go.Proofs.YtkpbhdhkdonghaaGreat
open Go Go.RowKit
variable {L:Array Bool} {g gp i r:Nat} {pr:Value}
def slot (L:Array Bool) (k:Nat) (v:Value):Value:=if L.getD k false=true then v else undef
theorem slot_ne {j:Nat} {v:Value} (h:i ≠ j):slot (L.setIfInBounds i true) j v=slot L j v:=by rw [slot,slot,getD_set_ne false h]
theorem BI {v:Value} (h:i < L.size):slot (L.setIfInBounds i true) i v=v:=by rw [slot,ED h,if_pos rfl]
theorem Au {v:Value} (h:L.getD i false=true):slot L i v=v:=by rw [slot,if_pos h]
def SA (gp g r:Nat) (pr:Value) (L:Array Bool):Act:={ tmps:=#[.pointer (some ⟨gp,0,none⟩),pr,undef,undef,.pointer (some ⟨g,0,none⟩),slot L 34 (.map (some r)),undef,undef,.pointer (some ⟨gp,0,none⟩),.bool false,undef,slot L 0 (.map (some r)),slot L 1 (.agg (PT 1)),slot L 2 (.pointer (some ⟨gp,0,none⟩)),slot L 3 (.func (.func 78) #[.pointer (some ⟨gp,0,none⟩)] #[]),slot L 5 (.agg (PT 2)),slot L 6 (.pointer (some ⟨gp,0,none⟩)),slot L 7 (.func (.func 80) #[.pointer (some ⟨gp,0,none⟩)] #[]),slot L 9 (.agg (PT 3)),slot L 10 (.pointer (some ⟨gp,0,none⟩)),slot L 11 (.func (.func 82) #[.pointer (some ⟨gp,0,none⟩)] #[]),slot L 13 (.agg (PT 4)),slot L 14 (.pointer (some ⟨gp,0,none⟩)),slot L 15 (.func (.func 84) #[.pointer (some ⟨gp,0,none⟩)] #[]),slot L 17 (.agg (PT 5)),slot L 18 (.pointer (some ⟨gp,0,none⟩)),slot L 19 (.func (.func 86) #[.pointer (some ⟨gp,0,none⟩)] #[]),slot L 21 (.agg (PT 6)),slot L 22 (.pointer (some ⟨gp,0,none⟩)),slot L 23 (.func (.func 88) #[.pointer (some ⟨gp,0,none⟩)] #[]),slot L 25 (.agg (PT 7)),slot L 26 (.pointer (some ⟨gp,0,none⟩)),slot L 27 (.func (.func 90) #[.pointer (some ⟨gp,0,none⟩)] #[]),slot L 29 (.agg (PT 8)),slot L 30 (.pointer (some ⟨gp,0,none⟩)),slot L 31 (.func (.func 92) #[.pointer (some ⟨gp,0,none⟩)] #[]),slot L 33 (.map (some r)),undef,undef,undef,undef,undef,undef,undef,undef,undef,undef,undef,undef,undef,undef,undef,undef,undef,undef,undef,undef,undef,undef,undef,undef,undef,undef,undef,undef,undef,undef,undef,undef],defers:=[] }
theorem yG (h:0 < L.size):(SA gp g r pr L).put (some 11) (.map (some r))=SA gp g r pr (L.setIfInBounds 0 true):=xbi
theorem yF (h:1 < L.size):(SA gp g r pr L).put (some 12) (.agg (PT 1))=SA gp g r pr (L.setIfInBounds 1 true):=xbi
theorem yE (h:2 < L.size):(SA gp g r pr L).put (some 13) (.pointer (some ⟨gp,0,none⟩))=SA gp g r pr (L.setIfInBounds 2 true):=xbi
theorem yD (h:3 < L.size):(SA gp g r pr L).put (some 14) (.func (.func 78) #[.pointer (some ⟨gp,0,none⟩)] #[])=SA gp g r pr (L.setIfInBounds 3 true):=xbi
theorem yC (h:5 < L.size):(SA gp g r pr L).put (some 15) (.agg (PT 2))=SA gp g r pr (L.setIfInBounds 5 true):=xbi
theorem yB (h:6 < L.size):(SA gp g r pr L).put (some 16) (.pointer (some ⟨gp,0,none⟩))=SA gp g r pr (L.setIfInBounds 6 true):=xbi
theorem yA (h:7 < L.size):(SA gp g r pr L).put (some 17) (.func (.func 80) #[.pointer (some ⟨gp,0,none⟩)] #[])=SA gp g r pr (L.setIfInBounds 7 true):=xbi
theorem yx (h:9 < L.size):(SA gp g r pr L).put (some 18) (.agg (PT 3))=SA gp g r pr (L.setIfInBounds 9 true):=xbi
theorem pO (h:10 < L.size):(SA gp g r pr L).put (some 19) (.pointer (some ⟨gp,0,none⟩))=SA gp g r pr (L.setIfInBounds 10 true):=xbi
theorem pK (h:11 < L.size):(SA gp g r pr L).put (some 20) (.func (.func 82) #[.pointer (some ⟨gp,0,none⟩)] #[])=SA gp g r pr (L.setIfInBounds 11 true):=xbi
theorem pJ (h:13 < L.size):(SA gp g r pr L).put (some 21) (.agg (PT 4))=SA gp g r pr (L.setIfInBounds 13 true):=xbi
theorem pI (h:14 < L.size):(SA gp g r pr L).put (some 22) (.pointer (some ⟨gp,0,none⟩))=SA gp g r pr (L.setIfInBounds 14 true):=xbi
theorem pG (h:15 < L.size):(SA gp g r pr L).put (some 23) (.func (.func 84) #[.pointer (some ⟨gp,0,none⟩)] #[])=SA gp g r pr (L.setIfInBounds 15 true):=xbi
theorem pF (h:17 < L.size):(SA gp g r pr L).put (some 24) (.agg (PT 5))=SA gp g r pr (L.setIfInBounds 17 true):=xbi
theorem pz (h:18 < L.size):(SA gp g r pr L).put (some 25) (.pointer (some ⟨gp,0,none⟩))=SA gp g r pr (L.setIfInBounds 18 true):=xbi
theorem A67 (h:19 < L.size):(SA gp g r pr L).put (some 26) (.func (.func 86) #[.pointer (some ⟨gp,0,none⟩)] #[])=SA gp g r pr (L.setIfInBounds 19 true):=xbi
theorem oZ (h:21 < L.size):(SA gp g r pr L).put (some 27) (.agg (PT 6))=SA gp g r pr (L.setIfInBounds 21 true):=xbi
theorem oW (h:22 < L.size):(SA gp g r pr L).put (some 28) (.pointer (some ⟨gp,0,none⟩))=SA gp g r pr (L.setIfInBounds 22 true):=xbi
theorem oV (h:23 < L.size):(SA gp g r pr L).put (some 29) (.func (.func 88) #[.pointer (some ⟨gp,0,none⟩)] #[])=SA gp g r pr (L.setIfInBounds 23 true):=xbi
theorem oU (h:25 < L.size):(SA gp g r pr L).put (some 30) (.agg (PT 7))=SA gp g r pr (L.setIfInBounds 25 true):=xbi
theorem oQ (h:26 < L.size):(SA gp g r pr L).put (some 31) (.pointer (some ⟨gp,0,none⟩))=SA gp g r pr (L.setIfInBounds 26 true):=xbi
theorem oP (h:27 < L.size):(SA gp g r pr L).put (some 32) (.func (.func 90) #[.pointer (some ⟨gp,0,none⟩)] #[])=SA gp g r pr (L.setIfInBounds 27 true):=xbi
theorem oO (h:29 < L.size):(SA gp g r pr L).put (some 33) (.agg (PT 8))=SA gp g r pr (L.setIfInBounds 29 true):=xbi
theorem oN (h:30 < L.size):(SA gp g r pr L).put (some 34) (.pointer (some ⟨gp,0,none⟩))=SA gp g r pr (L.setIfInBounds 30 true):=xbi
theorem oM (h:31 < L.size):(SA gp g r pr L).put (some 35) (.func (.func 92) #[.pointer (some ⟨gp,0,none⟩)] #[])=SA gp g r pr (L.setIfInBounds 31 true):=xbi
theorem oL (h:33 < L.size):(SA gp g r pr L).put (some 36) (.map (some r))=SA gp g r pr (L.setIfInBounds 33 true):=xbi
theorem oK (h:34 < L.size):(SA gp g r pr L).put (some 5) (.map (some r))=SA gp g r pr (L.setIfInBounds 34 true):=xbi
theorem yI:SA gp g r pr L=SA gp g r pr (L.setIfInBounds 4 true):=by
 simp [SA,slot_ne]
theorem yH:SA gp g r pr L=SA gp g r pr (L.setIfInBounds 8 true):=by
 simp [SA,slot_ne]
theorem pY:SA gp g r pr L=SA gp g r pr (L.setIfInBounds 12 true):=by
 simp [SA,slot_ne]
theorem pX:SA gp g r pr L=SA gp g r pr (L.setIfInBounds 16 true):=by
 simp [SA,slot_ne]
theorem pW:SA gp g r pr L=SA gp g r pr (L.setIfInBounds 20 true):=by
 simp [SA,slot_ne]
theorem pV:SA gp g r pr L=SA gp g r pr (L.setIfInBounds 24 true):=by
 simp [SA,slot_ne]
theorem pU:SA gp g r pr L=SA gp g r pr (L.setIfInBounds 28 true):=by
 simp [SA,slot_ne]
theorem pR:SA gp g r pr L=SA gp g r pr (L.setIfInBounds 32 true):=by
 simp [SA,slot_ne]
open Go Tryz Go.RowKit
variable {g i k n r':Nat} {pr:Value}
def Bl (gp k:Nat):Value × Value:=(.agg (PT (k+1)),.func (.func (78+2 * k)) #[.pointer (some ⟨gp,0,none⟩)] #[])
structure I5 (w0:World) (rows:Rws) (ss:List Sl) (gp r:Nat) (xs:L_) (L:Array Bool) (w:World):Prop where
 on:L.getD 0 false=true->Own w0 w rows (IK r xs::ss)/\∀ s ∈ ss,s.2.1 ≠ Ey+r
 off:L.getD 0 false=false->Own w0 w rows ss/\xs=[]
 has:∀ p,p ∈ BN xs ↔ ∃ k,k < 8/\L.getD (4 * k+4) false=true/\p=Bl gp k
 l33:L.getD 33 false=true->L.getD 0 false=true
 l34:L.getD 34 false=true->L.getD 0 false=true
variable {w0 w w':World} {rows:Rws} {ss:List Sl} {gp r:Nat} {xs:L_} {L:Array Bool}
theorem I5.start (hm:Own w0 w rows ss):I5 w0 rows ss gp r [] (Array.replicate n false) w:=by
 have h:∀ k,(Array.replicate n false).getD k false=false:=fun k=>by
  by_cases hk:k < n
  ·simp [hk]
  ·simp [hk]
 refine ⟨fun e=>?_,fun _=>⟨hm,rfl⟩,fun p=>?_,fun e=>?_,fun e=>?_⟩
 ·rw [h] at e;cases e
 ·refine ⟨fun hp=>(by cases hp),?_⟩;rintro ⟨k,_,e,_⟩;rw [h] at e;cases e
 ·rw [h] at e;cases e
 ·rw [h] at e;cases e
theorem I5.quiet (h:I5 w0 rows ss gp r xs L w) (h0:i ≠ 0) (hi:∀ k,k < 8->i ≠ 4 * k+4) (hr:i=33\/i=34->L.getD 0 false=true):I5 w0 rows ss gp r xs (L.setIfInBounds i true) w:=by
 have e0:(L.setIfInBounds i true).getD 0 false=L.getD 0 false:=getD_set_ne false h0;refine ⟨fun e=>h.on (e0 ▸ e),fun e=>h.off (e0 ▸ e),fun p=>?_,fun e=>?_,fun e=>?_⟩
 ·rw [h.has p]
  constructor
  ·rintro ⟨k,hk,e,hp⟩;exact ⟨k,hk,by rw [getD_set_ne false (hi k hk)];exact e,hp⟩
  ·rintro ⟨k,hk,e,hp⟩;exact ⟨k,hk,by rw [getD_set_ne false (hi k hk)] at e;exact e,hp⟩
 ·rw [e0];by_cases hc:i=33
  ·exact hr (.inl hc)
  ·rw [getD_set_ne false hc] at e;exact h.l33 e
 ·rw [e0];by_cases hc:i=34
  ·exact hr (.inr hc)
  ·rw [getD_set_ne false hc] at e;exact h.l34 e
theorem I5.call (h:I5 w0 rows ss gp r xs L w) (hb:Below w.heap.size w w'):I5 w0 rows ss gp r xs L w' :=
 ⟨fun e=>⟨(h.on e).1.call hb,(h.on e).2⟩,fun e=>⟨(h.off e).1.call hb,(h.off e).2⟩,h.has,h.l33,h.l34⟩
theorem I5.made (h:I5 w0 rows ss gp r xs L w) (hs:0 < L.size) (e:L.getD 0 false=false) (hm:Own w0 w' rows (IK r' []::ss)) (hd:∀ s ∈ ss,s.2.1 ≠ Ey+r'):I5 w0 rows ss gp r' [] (L.setIfInBounds 0 true) w':=by
 have e0:(L.setIfInBounds 0 true).getD 0 false=true:=ED hs;have hx:=(h.off e).2;refine ⟨fun _=>⟨hm,hd⟩,fun c=>(by rw [e0] at c;cases c),fun p=>?_,fun _=>e0,fun _=>e0⟩;rw [<- hx,h.has p]
 constructor
 ·rintro ⟨k,hk,e,hp⟩;exact ⟨k,hk,by rw [getD_set_ne false (by omega)];exact e,hp⟩
 ·rintro ⟨k,hk,e,hp⟩;exact ⟨k,hk,by rw [getD_set_ne false (by omega)] at e;exact e,hp⟩
theorem EK {gp j:Nat} (h:(Bl gp k).1=(Bl gp j).1):k=j:=by
 simp only [Bl,PT,Value.agg.injEq] at h;have:=congrArg (fun a:A_=>a[0]?) h;simp at this;omega
theorem I5.put (h:I5 w0 rows ss gp r xs L w) (hk:k < 8) (hs:4 * k+4 < L.size) (hm:Own w0 w' rows (IK r ((Bl gp k).1::(Bl gp k).2::xs)::ss)) (e:L.getD 0 false=true):I5 w0 rows ss gp r ((Bl gp k).1::(Bl gp k).2::xs) (L.setIfInBounds (4 * k+4) true) w':=by
 have e0:(L.setIfInBounds (4 * k+4) true).getD 0 false=true:=by rw [getD_set_ne false (by omega)];exact e
 refine ⟨fun _=>⟨hm,(h.on e).2⟩,fun c=>(by rw [e0] at c;cases c),fun p=>?_,fun _=>e0,fun _=>e0⟩;simp only [BN,List.mem_cons];rw [h.has p]
 constructor
 ·rintro (rfl|⟨j,hj,e,hp⟩)
  ·exact ⟨k,hk,ED hs,rfl⟩
  ·exact ⟨j,hj,getD_set_true e,hp⟩
 ·rintro ⟨j,hj,e,hp⟩;by_cases hkj:j=k
  ·subst hkj;exact .inl hp
  ·rw [getD_set_ne false (by omega)] at e;exact .inr ⟨j,hj,e,hp⟩
theorem I5.new (h:I5 w0 rows ss gp r xs L w) (hk:k < 8) (e:L.getD (4 * k+4) false=false):∀ p ∈ BN xs,p.1 ≠ (Bl gp k).1:=fun p hp hc=>by
 obtain ⟨j,hj,e2,rfl⟩:=(h.has p).1 hp;have:=EK hc;subst this;rw [e] at e2;cases e2
theorem AV (gp:Nat) (hk:k < 8):∃ l,keyOf prog 134 (Bl gp k).1=some l:=vI (by
 have:k=0\/k=1\/k=2\/k=3\/k=4\/k=5\/k=6\/k=7:=by omega
 rcases this with rfl|rfl|rfl|rfl|rfl|rfl|rfl|rfl<;>decide)
theorem I5.keyed (h:I5 w0 rows ss gp r xs L w):∀ p ∈ BN xs,∃ l,keyOf prog 134 p.1=some l:=fun p hp=>by
 obtain ⟨j,hj,_,rfl⟩:=(h.has p).1 hp;exact AV gp hj
def SInv (w0:World) (rows:Rws) (ss:List Sl) (gp g:Nat) (pr:Value) (L:Array Bool) (a:Act) (w:World):Prop:=∃ r xs,a=SA gp g r pr L/\I5 w0 rows ss gp r xs L w
theorem I5.free (h:I5 w0 rows ss gp r xs L w) (e:L.getD 0 false=false) (r':Nat):SA gp g r pr L=SA gp g r' pr L:=by
 have q:∀ (k:Nat) (v u:Value),L.getD k false=false->slot L k v=slot L k u:=fun k v u hk=>by
  rw [slot,slot,if_neg (by rw [hk];decide),if_neg (by rw [hk];decide)]
 have e33:L.getD 33 false=false:=by
  by_cases hc:L.getD 33 false=true
  ·have:=h.l33 hc;rw [e] at this;cases this
  ·simpa using hc
 have e34:L.getD 34 false=false:=by
  by_cases hc:L.getD 34 false=true
  ·have:=h.l34 hc;rw [e] at this;cases this
  ·simpa using hc
 unfold SA;rw [q 0 (.map (some r)) (.map (some r')) e,q 33 (.map (some r)) (.map (some r')) e33,q 34 (.map (some r)) (.map (some r')) e34]
variable {a:Act} {L:Array Bool} {ss:List Sl} {xs:L_} {g gp r:Nat} {o:Oper} {x:Operand} {P:Program} {rows:Rws} {pr:Value} {w w0:World}
theorem Hy {v:Value} (ho:o.op=.move x) (hx:a.eval x=v):(execOp a.eval o).run P w=.ok (.value v) w:=by
 unfold execOp;simp only [ho,hx];rfl
theorem A0j {v:Value} (ho:o.op=.assign x) (hx:a.eval x=v):(execOp a.eval o).run P w=.ok (.value v) w:=by
 unfold execOp;simp only [ho,hx];rfl
theorem IZ {f:Fn} {v:Value} (ho:o.op=.makeFunc f #[x] #[]) (hx:a.eval x=v):(execOp a.eval o).run P w=.ok (.value (.func f #[v] #[])) w:=by
 unfold execOp;simp only [ho,l_y,List.map_cons,List.map_nil,hx];rfl
def SF (gp g r:Nat) (pr:Value):Act:={ tmps:=(.pointer (some ⟨gp,0,none⟩)::pr::undef::undef::.pointer (some ⟨g,0,none⟩)::(.map (some r))::undef::undef::.pointer (some ⟨gp,0,none⟩)::.bool false::undef::(.map (some r))::(.agg (PT 1))::(.pointer (some ⟨gp,0,none⟩))::(.func (.func 78) #[.pointer (some ⟨gp,0,none⟩)] #[])::(.agg (PT 2))::(.pointer (some ⟨gp,0,none⟩))::(.func (.func 80) #[.pointer (some ⟨gp,0,none⟩)] #[])::(.agg (PT 3))::(.pointer (some ⟨gp,0,none⟩))::(.func (.func 82) #[.pointer (some ⟨gp,0,none⟩)] #[])::(.agg (PT 4))::(.pointer (some ⟨gp,0,none⟩))::(.func (.func 84) #[.pointer (some ⟨gp,0,none⟩)] #[])::(.agg (PT 5))::(.pointer (some ⟨gp,0,none⟩))::(.func (.func 86) #[.pointer (some ⟨gp,0,none⟩)] #[])::(.agg (PT 6))::(.pointer (some ⟨gp,0,none⟩))::(.func (.func 88) #[.pointer (some ⟨gp,0,none⟩)] #[])::(.agg (PT 7))::(.pointer (some ⟨gp,0,none⟩))::(.func (.func 90) #[.pointer (some ⟨gp,0,none⟩)] #[])::(.agg (PT 8))::(.pointer (some ⟨gp,0,none⟩))::(.func (.func 92) #[.pointer (some ⟨gp,0,none⟩)] #[])::(.map (some r))::undef::undef::undef::undef::undef::undef::undef::undef::undef::undef::undef::undef::undef::undef::undef::undef::undef::undef::undef::undef::undef::undef::undef::undef::undef::undef::undef::undef::undef::undef::undef::undef::[]).toArray,defers:=[] }
theorem A2U (h:∀ i,i < 35->L.getD i false=true):SA gp g r pr L=SF gp g r pr:=by
 unfold SA SF;simp only [Au (h 0 (by decide)),Au (h 1 (by decide)),Au (h 2 (by decide)),Au (h 3 (by decide)),Au (h 5 (by decide)),Au (h 6 (by decide)),Au (h 7 (by decide)),Au (h 9 (by decide)),Au (h 10 (by decide)),Au (h 11 (by decide)),Au (h 13 (by decide)),Au (h 14 (by decide)),Au (h 15 (by decide)),Au (h 17 (by decide)),Au (h 18 (by decide)),Au (h 19 (by decide)),Au (h 21 (by decide)),Au (h 22 (by decide)),Au (h 23 (by decide)),Au (h 25 (by decide)),Au (h 26 (by decide)),Au (h 27 (by decide)),Au (h 29 (by decide)),Au (h 30 (by decide)),Au (h 31 (by decide)),Au (h 33 (by decide)),Au (h 34 (by decide))]
theorem I5.all (h:I5 w0 rows ss gp r xs L w) (hl:∀ i,i < 35->L.getD i false=true):∀ p,p ∈ BN xs ↔ ∃ k,k < 8/\p=Bl gp k:=fun p=>by
 rw [h.has p]
 constructor
 ·rintro ⟨k,hk,_,e⟩;exact ⟨k,hk,e⟩
 ·rintro ⟨k,hk,e⟩;exact ⟨k,hk,hl _ (by omega),e⟩
def StI (I:Nat->Rws->Prop) (w0:World) (front:Nat × A_) (ss:List Sl) (w:World) (n:Nat):Prop:=∃ R,I n R/\Own w0 w (front::R) ss
theorem pk_0 (gp:Nat):(Bl gp 0).2=.func (.func 78) #[.pointer (some ⟨gp,0,none⟩)] #[]:=rfl
theorem pk_1 (gp:Nat):(Bl gp 1).2=.func (.func 80) #[.pointer (some ⟨gp,0,none⟩)] #[]:=rfl
theorem pk_2 (gp:Nat):(Bl gp 2).2=.func (.func 82) #[.pointer (some ⟨gp,0,none⟩)] #[]:=rfl
theorem pk_3 (gp:Nat):(Bl gp 3).2=.func (.func 84) #[.pointer (some ⟨gp,0,none⟩)] #[]:=rfl
theorem pk_4 (gp:Nat):(Bl gp 4).2=.func (.func 86) #[.pointer (some ⟨gp,0,none⟩)] #[]:=rfl
theorem pk_5 (gp:Nat):(Bl gp 5).2=.func (.func 88) #[.pointer (some ⟨gp,0,none⟩)] #[]:=rfl
theorem pk_6 (gp:Nat):(Bl gp 6).2=.func (.func 90) #[.pointer (some ⟨gp,0,none⟩)] #[]:=rfl
theorem pk_7 (gp:Nat):(Bl gp 7).2=.func (.func 92) #[.pointer (some ⟨gp,0,none⟩)] #[]:=rfl
theorem zG (gp:Nat) (gr:Nat) (pt hs ms ts cs ds er:A_) (RR:Rws) (w0 w:World) (ss:List Sl) (hm:Own w0 w ((gp,PR pt hs ms ts cs ds er)::RR) ss) (I:Nat->Rws->Prop) (n0:Nat) (hI0:I n0 ((gp,PR pt hs ms ts cs ds er)::RR)) (HI:∀ n R,I n R->∃ (k:Nat) (hs ms ts cs ds er:A_) (RR2:Rws),R=(gp,PR (PT (k+1)) hs ms ts cs ds er)::RR2/\k < 8/\PRz (PT (k+1)) hs ms ts cs ds er) (J:Int->Int->Int->Int->Int->Value->Int->Rws->Prop) (HC:Hid (∀ n k hs ms ts cs ds er RR2 W f ss',k < 8->I n ((gp,PR (PT ((k:Nat)+1)) hs ms ts cs ds er)::RR2)->Own w0 W (f::(gp,PR (PT (k+1)) hs ms ts cs ds er)::RR2) ss'->Calls prog (78+2 * k) #[.pointer (some ⟨gp,0,none⟩),.pointer (some ⟨gr,0,none⟩)] W fun x w'=>∃ kd n1 m p s v e told R',x=.returned (.tuple #[.agg (EVT kd n1 m p s v e),.bool told])/\v.oneCell'=true/\Own w0 w' (f::R') ss'/\(told=true->J kd n1 m p s v e R')/\(told=false->∃ m,m < n/\I m R'))):Calls prog 38 #[.pointer (some ⟨gp,0,none⟩),.pointer (some ⟨gr,0,none⟩)] w fun x w'=>∃ kd n m p s v e R',x=.returned (.agg (EVT kd n m p s v e))/\J kd n m p s v e R'/\Own w0 w' R' ss:=by
 go_enter func38,ntmps38
 go_upto_region 3 with ((with_reducible refine wa 76 hm BX ?_;clear hm;intro w g hm))
 refine I9 rfl (by kernel_rfl) (SInv w0 ((g,EVT 0 0 0 0 0 (.slice none 0 0) 0)::(gp,PR pt hs ms ts cs ds er)::RR) ss gp g (.pointer (some ⟨gr,0,none⟩))) (fun L i a w hz0 hi hI=>?_) (fun L a w hall hI=>?_) ⟨0,[],rfl,I5.start (hm.drawn _)⟩
 ·clear hm;obtain ⟨r,xs,rfl,hM⟩:=hI;have hlt:i < 35:=List.mem_range.1 (List.mem_filter.1 hi).1;have hs:L.size=35:=hz0;have hc:i=0\/i=1\/i=2\/i=3\/i=4\/i=5\/i=6\/i=7\/i=8\/i=9\/i=10\/i=11\/i=12\/i=13\/i=14\/i=15\/i=16\/i=17\/i=18\/i=19\/i=20\/i=21\/i=22\/i=23\/i=24\/i=25\/i=26\/i=27\/i=28\/i=29\/i=30\/i=31\/i=32\/i=33\/i=34:=by omega
  rcases hc with rfl|rfl|rfl|rfl|rfl|rfl|rfl|rfl|rfl|rfl|rfl|rfl|rfl|rfl|rfl|rfl|rfl|rfl|rfl|rfl|rfl|rfl|rfl|rfl|rfl|rfl|rfl|rfl|rfl|rfl|rfl|rfl|rfl|rfl|rfl
  ·refine Dx rfl rfl (fun K hK=>(BD (hM.off (Ap hz0 hi rfl).1).1 rfl (fun w' r' hm' hd=>?_)).wp (fun v w' h=>hK _ _ h));rw [hM.free (Ap hz0 hi rfl).1 r'];exact ⟨r',[],yG (by omega),hM.made (by omega) (Ap hz0 hi rfl).1 hm' hd⟩
  ·refine Dx rfl rfl (fun K hK=>?_);go_simp;refine (iG _).mono ?_;rintro e w1 ⟨rfl,hb⟩;refine hK _ _ ?_;exact ⟨r,xs,yF (by omega),(hM.quiet (by decide) (by omega) (fun h=>absurd h (by decide))).call hb⟩
  ·refine Dx rfl rfl (fun K hK=>(Eff.val (v:=(.pointer (some ⟨gp,0,none⟩))) (w':=w) (Hy rfl rfl) ?_).wp (fun v w' h=>hK _ _ h));exact ⟨r,xs,yE (by omega),hM.quiet (by decide) (by omega) (fun h=>absurd h (by decide))⟩
  ·have d2:L.getD 2 false=true:=(Ap hz0 hi rfl).2 ⟨2,.data⟩ (by simp) rfl;refine Dx rfl rfl (fun K hK=>(Eff.val (v:=(.func (.func 78) #[.pointer (some ⟨gp,0,none⟩)] #[])) (w':=w) (IZ rfl (by exact Au d2)) ?_).wp (fun v w' h=>hK _ _ h));exact ⟨r,xs,yD (by omega),hM.quiet (by decide) (by omega) (fun h=>absurd h (by decide))⟩
  ·have d0:L.getD 0 false=true:=(Ap hz0 hi rfl).2 ⟨0,.data⟩ (by simp) rfl;have d1:L.getD 1 false=true:=(Ap hz0 hi rfl).2 ⟨1,.data⟩ (by simp) rfl;have d3:L.getD 3 false=true:=(Ap hz0 hi rfl).2 ⟨3,.data⟩ (by simp) rfl;refine Dx rfl rfl (fun K hK=>(Bj (k:=(Bl gp 0).1) (v:=(Bl gp 0).2) (hM.on d0).1 (hM.on d0).2 rfl (by exact Au d0) (by exact Au d1) (by exact Au d3) underlying151 GL (AV gp (by decide)) hM.keyed (hM.new (by decide) (Ap hz0 hi rfl).1) (fun w' hm'=>?_)).wp (fun v w' h=>hK _ _ h));exact ⟨r,_,yI,hM.put (k:=0) (by decide) (by omega) hm' d0⟩
  ·refine Dx rfl rfl (fun K hK=>?_);go_simp;refine (WW _).mono ?_;rintro e w1 ⟨rfl,hb⟩;refine hK _ _ ?_;exact ⟨r,xs,yC (by omega),(hM.quiet (by decide) (by omega) (fun h=>absurd h (by decide))).call hb⟩
  ·refine Dx rfl rfl (fun K hK=>(Eff.val (v:=(.pointer (some ⟨gp,0,none⟩))) (w':=w) (Hy rfl rfl) ?_).wp (fun v w' h=>hK _ _ h));exact ⟨r,xs,yB (by omega),hM.quiet (by decide) (by omega) (fun h=>absurd h (by decide))⟩
  ·have d6:L.getD 6 false=true:=(Ap hz0 hi rfl).2 ⟨6,.data⟩ (by simp) rfl;refine Dx rfl rfl (fun K hK=>(Eff.val (v:=(.func (.func 80) #[.pointer (some ⟨gp,0,none⟩)] #[])) (w':=w) (IZ rfl (by exact Au d6)) ?_).wp (fun v w' h=>hK _ _ h));exact ⟨r,xs,yA (by omega),hM.quiet (by decide) (by omega) (fun h=>absurd h (by decide))⟩
  ·have d0:L.getD 0 false=true:=(Ap hz0 hi rfl).2 ⟨0,.data⟩ (by simp) rfl;have d5:L.getD 5 false=true:=(Ap hz0 hi rfl).2 ⟨5,.data⟩ (by simp) rfl;have d7:L.getD 7 false=true:=(Ap hz0 hi rfl).2 ⟨7,.data⟩ (by simp) rfl;refine Dx rfl rfl (fun K hK=>(Bj (k:=(Bl gp 1).1) (v:=(Bl gp 1).2) (hM.on d0).1 (hM.on d0).2 rfl (by exact Au d0) (by exact Au d5) (by exact Au d7) underlying151 GL (AV gp (by decide)) hM.keyed (hM.new (by decide) (Ap hz0 hi rfl).1) (fun w' hm'=>?_)).wp (fun v w' h=>hK _ _ h));exact ⟨r,_,yH,hM.put (k:=1) (by decide) (by omega) hm' d0⟩
  ·refine Dx rfl rfl (fun K hK=>?_);go_simp;refine (WV _).mono ?_;rintro e w1 ⟨rfl,hb⟩;refine hK _ _ ?_;exact ⟨r,xs,yx (by omega),(hM.quiet (by decide) (by omega) (fun h=>absurd h (by decide))).call hb⟩
  ·refine Dx rfl rfl (fun K hK=>(Eff.val (v:=(.pointer (some ⟨gp,0,none⟩))) (w':=w) (Hy rfl rfl) ?_).wp (fun v w' h=>hK _ _ h));exact ⟨r,xs,pO (by omega),hM.quiet (by decide) (by omega) (fun h=>absurd h (by decide))⟩
  ·have d10:L.getD 10 false=true:=(Ap hz0 hi rfl).2 ⟨10,.data⟩ (by simp) rfl;refine Dx rfl rfl (fun K hK=>(Eff.val (v:=(.func (.func 82) #[.pointer (some ⟨gp,0,none⟩)] #[])) (w':=w) (IZ rfl (by exact Au d10)) ?_).wp (fun v w' h=>hK _ _ h));exact ⟨r,xs,pK (by omega),hM.quiet (by decide) (by omega) (fun h=>absurd h (by decide))⟩
  ·have d0:L.getD 0 false=true:=(Ap hz0 hi rfl).2 ⟨0,.data⟩ (by simp) rfl;have d9:L.getD 9 false=true:=(Ap hz0 hi rfl).2 ⟨9,.data⟩ (by simp) rfl;have d11:L.getD 11 false=true:=(Ap hz0 hi rfl).2 ⟨11,.data⟩ (by simp) rfl;refine Dx rfl rfl (fun K hK=>(Bj (k:=(Bl gp 2).1) (v:=(Bl gp 2).2) (hM.on d0).1 (hM.on d0).2 rfl (by exact Au d0) (by exact Au d9) (by exact Au d11) underlying151 GL (AV gp (by decide)) hM.keyed (hM.new (by decide) (Ap hz0 hi rfl).1) (fun w' hm'=>?_)).wp (fun v w' h=>hK _ _ h));exact ⟨r,_,pY,hM.put (k:=2) (by decide) (by omega) hm' d0⟩
  ·refine Dx rfl rfl (fun K hK=>?_);go_simp;refine (iF _).mono ?_;rintro e w1 ⟨rfl,hb⟩;refine hK _ _ ?_;exact ⟨r,xs,pJ (by omega),(hM.quiet (by decide) (by omega) (fun h=>absurd h (by decide))).call hb⟩
  ·refine Dx rfl rfl (fun K hK=>(Eff.val (v:=(.pointer (some ⟨gp,0,none⟩))) (w':=w) (Hy rfl rfl) ?_).wp (fun v w' h=>hK _ _ h));exact ⟨r,xs,pI (by omega),hM.quiet (by decide) (by omega) (fun h=>absurd h (by decide))⟩
  ·have d14:L.getD 14 false=true:=(Ap hz0 hi rfl).2 ⟨14,.data⟩ (by simp) rfl;refine Dx rfl rfl (fun K hK=>(Eff.val (v:=(.func (.func 84) #[.pointer (some ⟨gp,0,none⟩)] #[])) (w':=w) (IZ rfl (by exact Au d14)) ?_).wp (fun v w' h=>hK _ _ h));exact ⟨r,xs,pG (by omega),hM.quiet (by decide) (by omega) (fun h=>absurd h (by decide))⟩
  ·have d0:L.getD 0 false=true:=(Ap hz0 hi rfl).2 ⟨0,.data⟩ (by simp) rfl;have d13:L.getD 13 false=true:=(Ap hz0 hi rfl).2 ⟨13,.data⟩ (by simp) rfl;have d15:L.getD 15 false=true:=(Ap hz0 hi rfl).2 ⟨15,.data⟩ (by simp) rfl;refine Dx rfl rfl (fun K hK=>(Bj (k:=(Bl gp 3).1) (v:=(Bl gp 3).2) (hM.on d0).1 (hM.on d0).2 rfl (by exact Au d0) (by exact Au d13) (by exact Au d15) underlying151 GL (AV gp (by decide)) hM.keyed (hM.new (by decide) (Ap hz0 hi rfl).1) (fun w' hm'=>?_)).wp (fun v w' h=>hK _ _ h));exact ⟨r,_,pX,hM.put (k:=3) (by decide) (by omega) hm' d0⟩
  ·refine Dx rfl rfl (fun K hK=>?_);go_simp;refine (iE _).mono ?_;rintro e w1 ⟨rfl,hb⟩;refine hK _ _ ?_;exact ⟨r,xs,pF (by omega),(hM.quiet (by decide) (by omega) (fun h=>absurd h (by decide))).call hb⟩
  ·refine Dx rfl rfl (fun K hK=>(Eff.val (v:=(.pointer (some ⟨gp,0,none⟩))) (w':=w) (Hy rfl rfl) ?_).wp (fun v w' h=>hK _ _ h));exact ⟨r,xs,pz (by omega),hM.quiet (by decide) (by omega) (fun h=>absurd h (by decide))⟩
  ·have d18:L.getD 18 false=true:=(Ap hz0 hi rfl).2 ⟨18,.data⟩ (by simp) rfl;refine Dx rfl rfl (fun K hK=>(Eff.val (v:=(.func (.func 86) #[.pointer (some ⟨gp,0,none⟩)] #[])) (w':=w) (IZ rfl (by exact Au d18)) ?_).wp (fun v w' h=>hK _ _ h));exact ⟨r,xs,A67 (by omega),hM.quiet (by decide) (by omega) (fun h=>absurd h (by decide))⟩
  ·have d0:L.getD 0 false=true:=(Ap hz0 hi rfl).2 ⟨0,.data⟩ (by simp) rfl;have d17:L.getD 17 false=true:=(Ap hz0 hi rfl).2 ⟨17,.data⟩ (by simp) rfl;have d19:L.getD 19 false=true:=(Ap hz0 hi rfl).2 ⟨19,.data⟩ (by simp) rfl;refine Dx rfl rfl (fun K hK=>(Bj (k:=(Bl gp 4).1) (v:=(Bl gp 4).2) (hM.on d0).1 (hM.on d0).2 rfl (by exact Au d0) (by exact Au d17) (by exact Au d19) underlying151 GL (AV gp (by decide)) hM.keyed (hM.new (by decide) (Ap hz0 hi rfl).1) (fun w' hm'=>?_)).wp (fun v w' h=>hK _ _ h));exact ⟨r,_,pW,hM.put (k:=4) (by decide) (by omega) hm' d0⟩
  ·refine Dx rfl rfl (fun K hK=>?_);go_simp;refine (WU _).mono ?_;rintro e w1 ⟨rfl,hb⟩;refine hK _ _ ?_;exact ⟨r,xs,oZ (by omega),(hM.quiet (by decide) (by omega) (fun h=>absurd h (by decide))).call hb⟩
  ·refine Dx rfl rfl (fun K hK=>(Eff.val (v:=(.pointer (some ⟨gp,0,none⟩))) (w':=w) (Hy rfl rfl) ?_).wp (fun v w' h=>hK _ _ h));exact ⟨r,xs,oW (by omega),hM.quiet (by decide) (by omega) (fun h=>absurd h (by decide))⟩
  ·have d22:L.getD 22 false=true:=(Ap hz0 hi rfl).2 ⟨22,.data⟩ (by simp) rfl;refine Dx rfl rfl (fun K hK=>(Eff.val (v:=(.func (.func 88) #[.pointer (some ⟨gp,0,none⟩)] #[])) (w':=w) (IZ rfl (by exact Au d22)) ?_).wp (fun v w' h=>hK _ _ h));exact ⟨r,xs,oV (by omega),hM.quiet (by decide) (by omega) (fun h=>absurd h (by decide))⟩
  ·have d0:L.getD 0 false=true:=(Ap hz0 hi rfl).2 ⟨0,.data⟩ (by simp) rfl;have d21:L.getD 21 false=true:=(Ap hz0 hi rfl).2 ⟨21,.data⟩ (by simp) rfl;have d23:L.getD 23 false=true:=(Ap hz0 hi rfl).2 ⟨23,.data⟩ (by simp) rfl;refine Dx rfl rfl (fun K hK=>(Bj (k:=(Bl gp 5).1) (v:=(Bl gp 5).2) (hM.on d0).1 (hM.on d0).2 rfl (by exact Au d0) (by exact Au d21) (by exact Au d23) underlying151 GL (AV gp (by decide)) hM.keyed (hM.new (by decide) (Ap hz0 hi rfl).1) (fun w' hm'=>?_)).wp (fun v w' h=>hK _ _ h));exact ⟨r,_,pV,hM.put (k:=5) (by decide) (by omega) hm' d0⟩
  ·refine Dx rfl rfl (fun K hK=>?_);go_simp;refine (iD _).mono ?_;rintro e w1 ⟨rfl,hb⟩;refine hK _ _ ?_;exact ⟨r,xs,oU (by omega),(hM.quiet (by decide) (by omega) (fun h=>absurd h (by decide))).call hb⟩
  ·refine Dx rfl rfl (fun K hK=>(Eff.val (v:=(.pointer (some ⟨gp,0,none⟩))) (w':=w) (Hy rfl rfl) ?_).wp (fun v w' h=>hK _ _ h));exact ⟨r,xs,oQ (by omega),hM.quiet (by decide) (by omega) (fun h=>absurd h (by decide))⟩
  ·have d26:L.getD 26 false=true:=(Ap hz0 hi rfl).2 ⟨26,.data⟩ (by simp) rfl;refine Dx rfl rfl (fun K hK=>(Eff.val (v:=(.func (.func 90) #[.pointer (some ⟨gp,0,none⟩)] #[])) (w':=w) (IZ rfl (by exact Au d26)) ?_).wp (fun v w' h=>hK _ _ h));exact ⟨r,xs,oP (by omega),hM.quiet (by decide) (by omega) (fun h=>absurd h (by decide))⟩
  ·have d0:L.getD 0 false=true:=(Ap hz0 hi rfl).2 ⟨0,.data⟩ (by simp) rfl;have d25:L.getD 25 false=true:=(Ap hz0 hi rfl).2 ⟨25,.data⟩ (by simp) rfl;have d27:L.getD 27 false=true:=(Ap hz0 hi rfl).2 ⟨27,.data⟩ (by simp) rfl;refine Dx rfl rfl (fun K hK=>(Bj (k:=(Bl gp 6).1) (v:=(Bl gp 6).2) (hM.on d0).1 (hM.on d0).2 rfl (by exact Au d0) (by exact Au d25) (by exact Au d27) underlying151 GL (AV gp (by decide)) hM.keyed (hM.new (by decide) (Ap hz0 hi rfl).1) (fun w' hm'=>?_)).wp (fun v w' h=>hK _ _ h));exact ⟨r,_,pU,hM.put (k:=6) (by decide) (by omega) hm' d0⟩
  ·refine Dx rfl rfl (fun K hK=>?_);go_simp;refine (iC _).mono ?_;rintro e w1 ⟨rfl,hb⟩;refine hK _ _ ?_;exact ⟨r,xs,oO (by omega),(hM.quiet (by decide) (by omega) (fun h=>absurd h (by decide))).call hb⟩
  ·refine Dx rfl rfl (fun K hK=>(Eff.val (v:=(.pointer (some ⟨gp,0,none⟩))) (w':=w) (Hy rfl rfl) ?_).wp (fun v w' h=>hK _ _ h));exact ⟨r,xs,oN (by omega),hM.quiet (by decide) (by omega) (fun h=>absurd h (by decide))⟩
  ·have d30:L.getD 30 false=true:=(Ap hz0 hi rfl).2 ⟨30,.data⟩ (by simp) rfl;refine Dx rfl rfl (fun K hK=>(Eff.val (v:=(.func (.func 92) #[.pointer (some ⟨gp,0,none⟩)] #[])) (w':=w) (IZ rfl (by exact Au d30)) ?_).wp (fun v w' h=>hK _ _ h));exact ⟨r,xs,oM (by omega),hM.quiet (by decide) (by omega) (fun h=>absurd h (by decide))⟩
  ·have d0:L.getD 0 false=true:=(Ap hz0 hi rfl).2 ⟨0,.data⟩ (by simp) rfl;have d29:L.getD 29 false=true:=(Ap hz0 hi rfl).2 ⟨29,.data⟩ (by simp) rfl;have d31:L.getD 31 false=true:=(Ap hz0 hi rfl).2 ⟨31,.data⟩ (by simp) rfl;refine Dx rfl rfl (fun K hK=>(Bj (k:=(Bl gp 7).1) (v:=(Bl gp 7).2) (hM.on d0).1 (hM.on d0).2 rfl (by exact Au d0) (by exact Au d29) (by exact Au d31) underlying151 GL (AV gp (by decide)) hM.keyed (hM.new (by decide) (Ap hz0 hi rfl).1) (fun w' hm'=>?_)).wp (fun v w' h=>hK _ _ h));exact ⟨r,_,pR,hM.put (k:=7) (by decide) (by omega) hm' d0⟩
  ·have d0:L.getD 0 false=true:=(Ap hz0 hi rfl).2 ⟨0,.data⟩ (by simp) rfl;refine Dx rfl rfl (fun K hK=>(Eff.val (v:=(.map (some r))) (w':=w) (Hy rfl (by exact Au d0)) ?_).wp (fun v w' h=>hK _ _ h));exact ⟨r,xs,oL (by omega),hM.quiet (by decide) (by omega) (fun _=>d0)⟩
  ·have d33:L.getD 33 false=true:=(Ap hz0 hi rfl).2 ⟨33,.data⟩ (by simp) rfl;have d0:=hM.l33 d33;refine Dx rfl rfl (fun K hK=>(Eff.val (v:=(.map (some r))) (w':=w) (A0j rfl (by exact Au d33)) ?_).wp (fun v w' h=>hK _ _ h));exact ⟨r,xs,oK (by omega),hM.quiet (by decide) (by omega) (fun _=>d0)⟩
 ·obtain ⟨r,xs,rfl,hM⟩:=hI;have hall:∀ i,i < 35->L.getD i false=true:=hall;rw [A2U hall];have HM:=h_ (hM.all hall);have hd:=(hM.on (hall 0 (by decide))).2;replace hm:=(hM.on (hall 0 (by decide))).1;clear hM hall;unfold SF;go_simp
  (rename_i hK;refine hK _ _ ?_;clear hK)
  go_wp2_with fail
  go_loopw [] (fun wr=>∃ n,StI I w0 (g,EVT 0 0 0 0 0 (.slice none 0 0) 0) (IK r xs::ss) wr n) (fun wr=>Po (StI I w0 (g,EVT 0 0 0 0 0 (.slice none 0 0) 0) (IK r xs::ss) wr))
  case atStart=>exact ⟨n0,_,hI0,hm⟩
  case round =>
   obtain ⟨n1,hn1⟩:=hrel;have hn:=YV hn1;obtain ⟨R,hI,hm⟩:=hn;obtain ⟨k,hs2,ms2,ts2,cs2,ds2,er2,RR2,rfl,hk,hz2⟩:=HI _ _ hI
   go_upto_region 4 with fail
   refine rO hm 18 (.rds [(0,false),(1,false),(2,false),(3,false),(4,false),(5,false),(6,true)] (.one 7 (.rds [(8,false),(9,false),(10,false),(11,false),(12,false),(13,false),(14,true)] (.one 15 (.rds [(16,false),(17,false)] .done))))) ?_;clear hm;intro w hm;simp only [KT.rds]
   iterate 3 refine kq ?_
   ((refine Bz rfl rfl ?_))
   try simp only [Act.put,s3]
   ((refine Bz rfl rfl ?_))
   try simp only [Act.put,s3]
   ((refine Bz rfl rfl ?_))
   try simp only [Act.put,s3]
   ((refine D6 rfl rfl ?_))
   try simp only [Act.put,s3]
   refine RX hm rfl rfl ?_
   try simp only [Act.put,s3]
   ((refine Bz rfl rfl ?_))
   try simp only [Act.put,s3]
   iterate 2 refine kq ?_
   ((refine Bz rfl rfl ?_))
   try simp only [Act.put,s3]
   ((refine Bz rfl rfl ?_))
   try simp only [Act.put,s3]
   ((refine Bz rfl rfl ?_))
   try simp only [Act.put,s3]
   ((refine D6 rfl rfl ?_))
   try simp only [Act.put,s3]
   refine RX hm rfl rfl ?_
   try simp only [Act.put,s3]
   ((refine Bz rfl rfl ?_))
   try simp only [Act.put,s3]
   refine kq ?_;refine Ba ?_;go_simp;have hkk:k=0\/k=1\/k=2\/k=3\/k=4\/k=5\/k=6\/k=7:=by omega
   rcases hkk with rfl|rfl|rfl|rfl|rfl|rfl|rfl|rfl
   ·go_wp2_with (first
     |(with_reducible refine gLd (t:=134) ?_;(refine A8 rfl (ldp 1 hm rfl rfl rfl (FD hz2) (Cm _) (FH hz2)) ?_))
     |(with_reducible refine gLk ?_;(refine A8 rfl (Ez (k:=(Bl gp 0).1) (v:=.func (.func 78) #[.pointer (some ⟨gp,0,none⟩)] #[]) 0 hm rfl rfl rfl rfl underlying151 GL (AV gp (by decide)) (fun p hp=>by obtain ⟨j,hj,rfl⟩:=(HM.out p).1 hp;exact AV gp hj) ⟨Bl gp 0,(HM.out (Bl gp 0)).2 ⟨0,(by decide),rfl⟩,rfl⟩ (fun p hp e=>by obtain ⟨j,hj,rfl⟩:=(HM.out p).1 hp;have q:=EK (gp:=gp) (k:=j) (j:=0) e;subst q;exact pk_0 gp)) ?_))
     |(go_at_call 78;have _t:=hm;refine (HC.out _ 0 _ _ _ _ _ _ _ _ _ _ (by decide) hI hm).mono ?_;clear _t hm;rintro x w1 ⟨kd,nn,mm,pp,sx,v,e,told,R3,rfl,hv,hm,hJ,hN⟩;cases told)
     |(with_reducible refine wa 76 hm BX ?_;clear hm;intro w g hm)
     |(with_reducible (first|refine ws 76 0 hm ?_ (h1:=c_z (Ak _ _ _ _ _ hv _))|refine ws 76 1 hm ?_ (h1:=c_z (Ak _ _ _ _ _ hv _)));clear hm;intro w hm)
     |(with_reducible refine wla 76 0 hm ?_))
    ·exact xa7
    ·exact xa8
   ·go_wp2_with (first
     |(with_reducible refine gLd (t:=134) ?_;(refine A8 rfl (ldp 1 hm rfl rfl rfl (FD hz2) (Cm _) (FH hz2)) ?_))
     |(with_reducible refine gLk ?_;(refine A8 rfl (Ez (k:=(Bl gp 1).1) (v:=.func (.func 80) #[.pointer (some ⟨gp,0,none⟩)] #[]) 0 hm rfl rfl rfl rfl underlying151 GL (AV gp (by decide)) (fun p hp=>by obtain ⟨j,hj,rfl⟩:=(HM.out p).1 hp;exact AV gp hj) ⟨Bl gp 1,(HM.out (Bl gp 1)).2 ⟨1,(by decide),rfl⟩,rfl⟩ (fun p hp e=>by obtain ⟨j,hj,rfl⟩:=(HM.out p).1 hp;have q:=EK (gp:=gp) (k:=j) (j:=1) e;subst q;exact pk_1 gp)) ?_))
     |(go_at_call 80;have _t:=hm;refine (HC.out _ 1 _ _ _ _ _ _ _ _ _ _ (by decide) hI hm).mono ?_;clear _t hm;rintro x w1 ⟨kd,nn,mm,pp,sx,v,e,told,R3,rfl,hv,hm,hJ,hN⟩;cases told)
     |(with_reducible refine wa 76 hm BX ?_;clear hm;intro w g hm)
     |(with_reducible (first|refine ws 76 0 hm ?_ (h1:=c_z (Ak _ _ _ _ _ hv _))|refine ws 76 1 hm ?_ (h1:=c_z (Ak _ _ _ _ _ hv _)));clear hm;intro w hm)
     |(with_reducible refine wla 76 0 hm ?_))
    ·exact xa7
    ·exact xa8
   ·go_wp2_with (first
     |(with_reducible refine gLd (t:=134) ?_;(refine A8 rfl (ldp 1 hm rfl rfl rfl (FD hz2) (Cm _) (FH hz2)) ?_))
     |(with_reducible refine gLk ?_;(refine A8 rfl (Ez (k:=(Bl gp 2).1) (v:=.func (.func 82) #[.pointer (some ⟨gp,0,none⟩)] #[]) 0 hm rfl rfl rfl rfl underlying151 GL (AV gp (by decide)) (fun p hp=>by obtain ⟨j,hj,rfl⟩:=(HM.out p).1 hp;exact AV gp hj) ⟨Bl gp 2,(HM.out (Bl gp 2)).2 ⟨2,(by decide),rfl⟩,rfl⟩ (fun p hp e=>by obtain ⟨j,hj,rfl⟩:=(HM.out p).1 hp;have q:=EK (gp:=gp) (k:=j) (j:=2) e;subst q;exact pk_2 gp)) ?_))
     |(go_at_call 82;have _t:=hm;refine (HC.out _ 2 _ _ _ _ _ _ _ _ _ _ (by decide) hI hm).mono ?_;clear _t hm;rintro x w1 ⟨kd,nn,mm,pp,sx,v,e,told,R3,rfl,hv,hm,hJ,hN⟩;cases told)
     |(with_reducible refine wa 76 hm BX ?_;clear hm;intro w g hm)
     |(with_reducible (first|refine ws 76 0 hm ?_ (h1:=c_z (Ak _ _ _ _ _ hv _))|refine ws 76 1 hm ?_ (h1:=c_z (Ak _ _ _ _ _ hv _)));clear hm;intro w hm)
     |(with_reducible refine wla 76 0 hm ?_))
    ·exact xa7
    ·exact xa8
   ·go_wp2_with (first
     |(with_reducible refine gLd (t:=134) ?_;(refine A8 rfl (ldp 1 hm rfl rfl rfl (FD hz2) (Cm _) (FH hz2)) ?_))
     |(with_reducible refine gLk ?_;(refine A8 rfl (Ez (k:=(Bl gp 3).1) (v:=.func (.func 84) #[.pointer (some ⟨gp,0,none⟩)] #[]) 0 hm rfl rfl rfl rfl underlying151 GL (AV gp (by decide)) (fun p hp=>by obtain ⟨j,hj,rfl⟩:=(HM.out p).1 hp;exact AV gp hj) ⟨Bl gp 3,(HM.out (Bl gp 3)).2 ⟨3,(by decide),rfl⟩,rfl⟩ (fun p hp e=>by obtain ⟨j,hj,rfl⟩:=(HM.out p).1 hp;have q:=EK (gp:=gp) (k:=j) (j:=3) e;subst q;exact pk_3 gp)) ?_))
     |(go_at_call 84;have _t:=hm;refine (HC.out _ 3 _ _ _ _ _ _ _ _ _ _ (by decide) hI hm).mono ?_;clear _t hm;rintro x w1 ⟨kd,nn,mm,pp,sx,v,e,told,R3,rfl,hv,hm,hJ,hN⟩;cases told)
     |(with_reducible refine wa 76 hm BX ?_;clear hm;intro w g hm)
     |(with_reducible (first|refine ws 76 0 hm ?_ (h1:=c_z (Ak _ _ _ _ _ hv _))|refine ws 76 1 hm ?_ (h1:=c_z (Ak _ _ _ _ _ hv _)));clear hm;intro w hm)
     |(with_reducible refine wla 76 0 hm ?_))
    ·exact xa7
    ·exact xa8
   ·go_wp2_with (first
     |(with_reducible refine gLd (t:=134) ?_;(refine A8 rfl (ldp 1 hm rfl rfl rfl (FD hz2) (Cm _) (FH hz2)) ?_))
     |(with_reducible refine gLk ?_;(refine A8 rfl (Ez (k:=(Bl gp 4).1) (v:=.func (.func 86) #[.pointer (some ⟨gp,0,none⟩)] #[]) 0 hm rfl rfl rfl rfl underlying151 GL (AV gp (by decide)) (fun p hp=>by obtain ⟨j,hj,rfl⟩:=(HM.out p).1 hp;exact AV gp hj) ⟨Bl gp 4,(HM.out (Bl gp 4)).2 ⟨4,(by decide),rfl⟩,rfl⟩ (fun p hp e=>by obtain ⟨j,hj,rfl⟩:=(HM.out p).1 hp;have q:=EK (gp:=gp) (k:=j) (j:=4) e;subst q;exact pk_4 gp)) ?_))
     |(go_at_call 86;have _t:=hm;refine (HC.out _ 4 _ _ _ _ _ _ _ _ _ _ (by decide) hI hm).mono ?_;clear _t hm;rintro x w1 ⟨kd,nn,mm,pp,sx,v,e,told,R3,rfl,hv,hm,hJ,hN⟩;cases told)
     |(with_reducible refine wa 76 hm BX ?_;clear hm;intro w g hm)
     |(with_reducible (first|refine ws 76 0 hm ?_ (h1:=c_z (Ak _ _ _ _ _ hv _))|refine ws 76 1 hm ?_ (h1:=c_z (Ak _ _ _ _ _ hv _)));clear hm;intro w hm)
     |(with_reducible refine wla 76 0 hm ?_))
    ·exact xa7
    ·exact xa8
   ·go_wp2_with (first
     |(with_reducible refine gLd (t:=134) ?_;(refine A8 rfl (ldp 1 hm rfl rfl rfl (FD hz2) (Cm _) (FH hz2)) ?_))
     |(with_reducible refine gLk ?_;(refine A8 rfl (Ez (k:=(Bl gp 5).1) (v:=.func (.func 88) #[.pointer (some ⟨gp,0,none⟩)] #[]) 0 hm rfl rfl rfl rfl underlying151 GL (AV gp (by decide)) (fun p hp=>by obtain ⟨j,hj,rfl⟩:=(HM.out p).1 hp;exact AV gp hj) ⟨Bl gp 5,(HM.out (Bl gp 5)).2 ⟨5,(by decide),rfl⟩,rfl⟩ (fun p hp e=>by obtain ⟨j,hj,rfl⟩:=(HM.out p).1 hp;have q:=EK (gp:=gp) (k:=j) (j:=5) e;subst q;exact pk_5 gp)) ?_))
     |(go_at_call 88;have _t:=hm;refine (HC.out _ 5 _ _ _ _ _ _ _ _ _ _ (by decide) hI hm).mono ?_;clear _t hm;rintro x w1 ⟨kd,nn,mm,pp,sx,v,e,told,R3,rfl,hv,hm,hJ,hN⟩;cases told)
     |(with_reducible refine wa 76 hm BX ?_;clear hm;intro w g hm)
     |(with_reducible (first|refine ws 76 0 hm ?_ (h1:=c_z (Ak _ _ _ _ _ hv _))|refine ws 76 1 hm ?_ (h1:=c_z (Ak _ _ _ _ _ hv _)));clear hm;intro w hm)
     |(with_reducible refine wla 76 0 hm ?_))
    ·exact xa7
    ·exact xa8
   ·go_wp2_with (first
     |(with_reducible refine gLd (t:=134) ?_;(refine A8 rfl (ldp 1 hm rfl rfl rfl (FD hz2) (Cm _) (FH hz2)) ?_))
     |(with_reducible refine gLk ?_;(refine A8 rfl (Ez (k:=(Bl gp 6).1) (v:=.func (.func 90) #[.pointer (some ⟨gp,0,none⟩)] #[]) 0 hm rfl rfl rfl rfl underlying151 GL (AV gp (by decide)) (fun p hp=>by obtain ⟨j,hj,rfl⟩:=(HM.out p).1 hp;exact AV gp hj) ⟨Bl gp 6,(HM.out (Bl gp 6)).2 ⟨6,(by decide),rfl⟩,rfl⟩ (fun p hp e=>by obtain ⟨j,hj,rfl⟩:=(HM.out p).1 hp;have q:=EK (gp:=gp) (k:=j) (j:=6) e;subst q;exact pk_6 gp)) ?_))
     |(go_at_call 90;have _t:=hm;refine (HC.out _ 6 _ _ _ _ _ _ _ _ _ _ (by decide) hI hm).mono ?_;clear _t hm;rintro x w1 ⟨kd,nn,mm,pp,sx,v,e,told,R3,rfl,hv,hm,hJ,hN⟩;cases told)
     |(with_reducible refine wa 76 hm BX ?_;clear hm;intro w g hm)
     |(with_reducible (first|refine ws 76 0 hm ?_ (h1:=c_z (Ak _ _ _ _ _ hv _))|refine ws 76 1 hm ?_ (h1:=c_z (Ak _ _ _ _ _ hv _)));clear hm;intro w hm)
     |(with_reducible refine wla 76 0 hm ?_))
    ·exact xa7
    ·exact xa8
   ·go_wp2_with (first
     |(with_reducible refine gLd (t:=134) ?_;(refine A8 rfl (ldp 1 hm rfl rfl rfl (FD hz2) (Cm _) (FH hz2)) ?_))
     |(with_reducible refine gLk ?_;(refine A8 rfl (Ez (k:=(Bl gp 7).1) (v:=.func (.func 92) #[.pointer (some ⟨gp,0,none⟩)] #[]) 0 hm rfl rfl rfl rfl underlying151 GL (AV gp (by decide)) (fun p hp=>by obtain ⟨j,hj,rfl⟩:=(HM.out p).1 hp;exact AV gp hj) ⟨Bl gp 7,(HM.out (Bl gp 7)).2 ⟨7,(by decide),rfl⟩,rfl⟩ (fun p hp e=>by obtain ⟨j,hj,rfl⟩:=(HM.out p).1 hp;have q:=EK (gp:=gp) (k:=j) (j:=7) e;subst q;exact pk_7 gp)) ?_))
     |(go_at_call 92;have _t:=hm;refine (HC.out _ 7 _ _ _ _ _ _ _ _ _ _ (by decide) hI hm).mono ?_;clear _t hm;rintro x w1 ⟨kd,nn,mm,pp,sx,v,e,told,R3,rfl,hv,hm,hJ,hN⟩;cases told)
     |(with_reducible refine wa 76 hm BX ?_;clear hm;intro w g hm)
     |(with_reducible (first|refine ws 76 0 hm ?_ (h1:=c_z (Ak _ _ _ _ _ hv _))|refine ws 76 1 hm ?_ (h1:=c_z (Ak _ _ _ _ _ hv _)));clear hm;intro w hm)
     |(with_reducible refine wla 76 0 hm ?_))
    ·exact xa7
    ·exact xa8
end Go.Proofs.YtkpbhdhkdonghaaGreat
