/- Part 17 of the proof. -/
import Derived.Test.YtkpbhdhkdonghaaGreatS14
import Derived.Test.YtkpbhdhkdonghaaGreatS16
set_option linter.all false
set_option maxHeartbeats 2000000
set_option maxRecDepth 100000
namespace Go.Proofs.YtkpbhdhkdonghaaGreat
open Go Go.RowKit
section
variable{L:Oc}{g i r:Nat}{pr:NY}
def slot(L:Oc)(k:Nat)(v:NY):Value:=if L.getD k false=true then v else undef
def slot_ne{j:Nat}{v:NY}(h:i≠j):slot (L.setIfInBounds i true) j v=slot L j v:=by rw[slot,slot,gu false h]
def a1h{v:NY}(h:i<L.size):slot (L.setIfInBounds i true) i v=v:=by rw[slot,ED h,aQ rfl]
def Au{v:NY}(h:L.getD i false=true):slot L i v=v:=by rw[slot,aQ h]
def SA(gp g r:Nat)(pr:NY)(L:Oc):Act:={tmps:=#[.pointer (some ⟨gp,0,none⟩),pr,undef,undef,.pointer (some ⟨g,0,none⟩),slot L 34 (.map (some r)),undef,undef,.pointer (some ⟨gp,0,none⟩),.bool false,undef,slot L 0 (.map (some r)),slot L 1 (.agg (PT 1)),slot L 2 (.pointer (some ⟨gp,0,none⟩)),slot L 3 (.func (.func 78) #[.pointer (some ⟨gp,0,none⟩)] #[]),slot L 5 (.agg (PT 2)),slot L 6 (.pointer (some ⟨gp,0,none⟩)),slot L 7 (.func (.func 80) #[.pointer (some ⟨gp,0,none⟩)] #[]),slot L 9 (.agg (PT 3)),slot L 10 (.pointer (some ⟨gp,0,none⟩)),slot L 11 (.func (.func 82) #[.pointer (some ⟨gp,0,none⟩)] #[]),slot L 13 (.agg (PT 4)),slot L 14 (.pointer (some ⟨gp,0,none⟩)),slot L 15 (.func (.func 84) #[.pointer (some ⟨gp,0,none⟩)] #[]),slot L 17 (.agg (PT 5)),slot L 18 (.pointer (some ⟨gp,0,none⟩)),slot L 19 (.func (.func 86) #[.pointer (some ⟨gp,0,none⟩)] #[]),slot L 21 (.agg (PT 6)),slot L 22 (.pointer (some ⟨gp,0,none⟩)),slot L 23 (.func (.func 88) #[.pointer (some ⟨gp,0,none⟩)] #[]),slot L 25 (.agg (PT 7)),slot L 26 (.pointer (some ⟨gp,0,none⟩)),slot L 27 (.func (.func 90) #[.pointer (some ⟨gp,0,none⟩)] #[]),slot L 29 (.agg (PT 8)),slot L 30 (.pointer (some ⟨gp,0,none⟩)),slot L 31 (.func (.func 92) #[.pointer (some ⟨gp,0,none⟩)] #[]),slot L 33 (.map (some r)),undef,undef,undef,undef,undef,undef,undef,undef,undef,undef,undef,undef,undef,undef,undef,undef,undef,undef,undef,undef,undef,undef,undef,undef,undef,undef,undef,undef,undef,undef,undef,undef],defers:=[]}
def yG{gp:Nat}(h:0<L.size):(SA gp g r pr L).put (some 11) (.map (some r))=SA gp g r pr (L.setIfInBounds 0 true):=dk
def yF{gp:Nat}(h:1<L.size):(SA gp g r pr L).put (some 12) (.agg (PT 1))=SA gp g r pr (L.setIfInBounds 1 true):=dk
def yE{gp:Nat}(h:2<L.size):(SA gp g r pr L).put (some 13) (.pointer gp)=SA gp g r pr (L.setIfInBounds 2 true):=dk
def yD{gp:Nat}(h:3<L.size):(SA gp g r pr L).put (some 14) (.func (.func 78) #[.pointer (some ⟨gp,0,none⟩)] #[])=SA gp g r pr (L.setIfInBounds 3 true):=dk
def a1O{gp:Nat}(h:5<L.size):(SA gp g r pr L).put (some 15) (.agg (PT 2))=SA gp g r pr (L.setIfInBounds 5 true):=dk
def yB{gp:Nat}(h:6<L.size):(SA gp g r pr L).put (some 16) (.pointer gp)=SA gp g r pr (L.setIfInBounds 6 true):=dk
def yA{gp:Nat}(h:7<L.size):(SA gp g r pr L).put (some 17) (.func (.func 80) #[.pointer (some ⟨gp,0,none⟩)] #[])=SA gp g r pr (L.setIfInBounds 7 true):=dk
def yx{gp:Nat}(h:9<L.size):(SA gp g r pr L).put (some 18) (.agg (PT 3))=SA gp g r pr (L.setIfInBounds 9 true):=dk
def a17{gp:Nat}(h:10<L.size):(SA gp g r pr L).put (some 19) (.pointer gp)=SA gp g r pr (L.setIfInBounds 10 true):=dk
def a0d{gp:Nat}(h:11<L.size):(SA gp g r pr L).put (some 20) (.func (.func 82) #[.pointer (some ⟨gp,0,none⟩)] #[])=SA gp g r pr (L.setIfInBounds 11 true):=dk
def pJ{gp:Nat}(h:13<L.size):(SA gp g r pr L).put (some 21) (.agg (PT 4))=SA gp g r pr (L.setIfInBounds 13 true):=dk
def pI{gp:Nat}(h:14<L.size):(SA gp g r pr L).put (some 22) (.pointer gp)=SA gp g r pr (L.setIfInBounds 14 true):=dk
def a0F{gp:Nat}(h:15<L.size):(SA gp g r pr L).put (some 23) (.func (.func 84) #[.pointer (some ⟨gp,0,none⟩)] #[])=SA gp g r pr (L.setIfInBounds 15 true):=dk
def pF{gp:Nat}(h:17<L.size):(SA gp g r pr L).put (some 24) (.agg (PT 5))=SA gp g r pr (L.setIfInBounds 17 true):=dk
def Zt{gp:Nat}(h:18<L.size):(SA gp g r pr L).put (some 25) (.pointer gp)=SA gp g r pr (L.setIfInBounds 18 true):=dk
def A67{gp:Nat}(h:19<L.size):(SA gp g r pr L).put (some 26) (.func (.func 86) #[.pointer (some ⟨gp,0,none⟩)] #[])=SA gp g r pr (L.setIfInBounds 19 true):=dk
def a0g{gp:Nat}(h:21<L.size):(SA gp g r pr L).put (some 27) (.agg (PT 6))=SA gp g r pr (L.setIfInBounds 21 true):=dk
def a1H{gp:Nat}(h:22<L.size):(SA gp g r pr L).put (some 28) (.pointer gp)=SA gp g r pr (L.setIfInBounds 22 true):=dk
def a15{gp:Nat}(h:23<L.size):(SA gp g r pr L).put (some 29) (.func (.func 88) #[.pointer (some ⟨gp,0,none⟩)] #[])=SA gp g r pr (L.setIfInBounds 23 true):=dk
def oU{gp:Nat}(h:25<L.size):(SA gp g r pr L).put (some 30) (.agg (PT 7))=SA gp g r pr (L.setIfInBounds 25 true):=dk
def oQ{gp:Nat}(h:26<L.size):(SA gp g r pr L).put (some 31) (.pointer gp)=SA gp g r pr (L.setIfInBounds 26 true):=dk
def a0q{gp:Nat}(h:27<L.size):(SA gp g r pr L).put (some 32) (.func (.func 90) #[.pointer (some ⟨gp,0,none⟩)] #[])=SA gp g r pr (L.setIfInBounds 27 true):=dk
def oO{gp:Nat}(h:29<L.size):(SA gp g r pr L).put (some 33) (.agg (PT 8))=SA gp g r pr (L.setIfInBounds 29 true):=dk
def oN{gp:Nat}(h:30<L.size):(SA gp g r pr L).put (some 34) (.pointer gp)=SA gp g r pr (L.setIfInBounds 30 true):=dk
def oM{gp:Nat}(h:31<L.size):(SA gp g r pr L).put (some 35) (.func (.func 92) #[.pointer (some ⟨gp,0,none⟩)] #[])=SA gp g r pr (L.setIfInBounds 31 true):=dk
def oL{gp:Nat}(h:33<L.size):(SA gp g r pr L).put (some 36) (.map (some r))=SA gp g r pr (L.setIfInBounds 33 true):=dk
def oK{gp:Nat}(h:34<L.size):(SA gp g r pr L).put (some 5) (.map (some r))=SA gp g r pr (L.setIfInBounds 34 true):=dk
def yI{gp:Nat}:SA gp g r pr L=SA gp g r pr (L.setIfInBounds 4 true):=by
 simp[SA,slot_ne]
def yH{gp:Nat}:SA gp g r pr L=SA gp g r pr (L.setIfInBounds 8 true):=by
 simp[SA,slot_ne]
def a1d{gp:Nat}:SA gp g r pr L=SA gp g r pr (L.setIfInBounds 12 true):=by
 simp[SA,slot_ne]
def pX{gp:Nat}:SA gp g r pr L=SA gp g r pr (L.setIfInBounds 16 true):=by
 simp[SA,slot_ne]
def pW{gp:Nat}:SA gp g r pr L=SA gp g r pr (L.setIfInBounds 20 true):=by
 simp[SA,slot_ne]
def a1e{gp:Nat}:SA gp g r pr L=SA gp g r pr (L.setIfInBounds 24 true):=by
 simp[SA,slot_ne]
def pU{gp:Nat}:SA gp g r pr L=SA gp g r pr (L.setIfInBounds 28 true):=by
 simp[SA,slot_ne]
def pR{gp:Nat}:SA gp g r pr L=SA gp g r pr (L.setIfInBounds 32 true):=by
 simp[SA,slot_ne]
end
open Go Tryz Go.RowKit
section
variable{g i k n r':Nat}{pr:NY}
def Bl(gp k:Nat):Value×Value:=(.agg (PT (k+1)),.func (.func (78+2*k)) #[.pointer (some ⟨gp,0,none⟩)] #[])
structure I5(w0:FC)(rows:ae)(ss:O1)(gp r:Nat)(xs:ar)(L:Oc)(w:FC):Prop where
 on:L.getD 0 false=true->Own w0 w rows (IK r xs::ss)/\∀s∈ss,s.2.1≠Ey+r
 off:L.getD 0 false=false->Own w0 w rows ss/\xs=[]
 has:∀p,p∈BN xs↔∃k,k<8/\L.getD (4*k+4) false=true/\p=Bl gp k
 l33:L.getD 33 false=true->L.getD 0 false=true
 l34:L.getD 34 false=true->L.getD 0 false=true
variable{w0 w w':FC}{rows:ae}{ss:O1}{gp r:Nat}{xs:ar}{L:Oc}
def I5.start(hm:Own w0 w rows ss):I5 w0 rows ss gp r [] (Array.replicate n false) w:=by
 have h:∀k,(Array.replicate n false).getD k false=false:=λk=>by
  by_cases hk:k<n
  .simp[hk]
  .simp[hk]
 refine⟨λe=>?_,λ_=>⟨hm,rfl⟩,λp=>?_,λe=>?_,λe=>?_⟩
 .rw[h]at e;cases e
 .refine⟨λhp=>(by cases hp),?_⟩;rintro⟨k,_,e,_⟩;rw[h]at e;cases e
 .rw[h]at e;cases e
 .rw[h]at e;cases e
def I5.quiet(h:I5 w0 rows ss gp r xs L w)(h0:i≠0)(hi:∀k,k<8->i≠4*k+4)(hr:i=33\/i=34->L.getD 0 false=true):I5 w0 rows ss gp r xs (L.setIfInBounds i true) w:=by
 have e0:(L.setIfInBounds i true).getD 0 false=L.getD 0 false:=gu false h0;refine⟨λe=>h.on (e0▸e),λe=>h.off (e0▸e),λp=>?_,λe=>?_,λe=>?_⟩
 .rw[h.has p]
  constructor
  .rintro⟨k,hk,e,hp⟩;exact⟨k,hk,by rw[gu false (hi k hk)];exact e,hp⟩
  .rintro⟨k,hk,e,hp⟩;exact⟨k,hk,by rw[gu false (hi k hk)]at e;exact e,hp⟩
 .rw[e0];by_cases hc:i=33
  .exact hr (.inl hc)
  .rw[gu false hc]at e;exact h.l33 e
 .rw[e0];by_cases hc:i=34
  .exact hr (.inr hc)
  .rw[gu false hc]at e;exact h.l34 e
def I5.call(h:I5 w0 rows ss gp r xs L w)(hb:Below w.heap.size w w'):I5 w0 rows ss gp r xs L w':=
 ⟨λe=>⟨(h.on e).1.call hb,(h.on e).2⟩,λe=>⟨(h.off e).1.call hb,(h.off e).2⟩,h.has,h.l33,h.l34⟩
def I5.made(h:I5 w0 rows ss gp r xs L w)(hs:0<L.size)(e:L.getD 0 false=false)(hm:Own w0 w' rows (IK r' []::ss))(hd:∀s∈ss,s.2.1≠Ey+r'):I5 w0 rows ss gp r' [] (L.setIfInBounds 0 true) w':=by
 have e0:(L.setIfInBounds 0 true).getD 0 false=true:=ED hs;have hx:=(h.off e).2;refine⟨λ_=>⟨hm,hd⟩,λc=>(by rw[e0]at c;cases c),λp=>?_,λ_=>e0,λ_=>e0⟩;rw[<-hx,h.has p]
 constructor
 .rintro⟨k,hk,e,hp⟩;exact⟨k,hk,by rw[gu false FP];exact e,hp⟩
 .rintro⟨k,hk,e,hp⟩;exact⟨k,hk,by rw[gu false FP]at e;exact e,hp⟩
def EK{gp j:Nat}(h:(Bl gp k).1=(Bl gp j).1):k=j:=by
 simp only[Bl,PT,Value.agg.injEq]at h;have:=congrArg (λa:ai=>a[0]?) h;simp at this;omega
def I5.put(h:I5 w0 rows ss gp r xs L w)(hk:k<8)(hs:4*k+4<L.size)(hm:Own w0 w' rows (IK r ((Bl gp k).1::(Bl gp k).2::xs)::ss))(e:L.getD 0 false=true):I5 w0 rows ss gp r ((Bl gp k).1::(Bl gp k).2::xs) (L.setIfInBounds (4*k+4) true) w':=by
 have e0:(L.setIfInBounds (4*k+4) true).getD 0 false=true:=by rw[gu false FP];exact e
 refine⟨λ_=>⟨hm,(h.on e).2⟩,λc=>(by rw[e0]at c;cases c),λp=>?_,λ_=>e0,λ_=>e0⟩;simp only[BN,dh];rw[h.has p]
 constructor
 .rintro(rfl|⟨j,hj,e,hp⟩)
  .exact⟨k,hk,ED hs,rfl⟩
  .exact⟨j,hj,uO e,hp⟩
 .rintro⟨j,hj,e,hp⟩;by_cases hkj:j=k
  .subst hkj;exact .inl hp
  .rw[gu false FP]at e;exact .inr ⟨j,hj,e,hp⟩
def I5.new(h:I5 w0 rows ss gp r xs L w)(hk:k<8)(e:L.getD (4*k+4) false=false):∀p∈BN xs,p.1≠(Bl gp k).1:=λp hp hc=>by
 obtain⟨j,hj,e2,rfl⟩:=(h.has p).1 hp;have:=EK hc;subst this;rw[e]at e2;cases e2
def AV(gp:Nat)(hk:k<8):∃l,keyOf prog 134 (Bl gp k).1=some l:=UE (by
 have:k=0\/k=1\/k=2\/k=3\/k=4\/k=5\/k=6\/k=7:=FP
 rcases this with rfl|rfl|rfl|rfl|rfl|rfl|rfl|rfl<;>decide)
def I5.keyed(h:I5 w0 rows ss gp r xs L w):∀p∈BN xs,∃l,keyOf prog 134 p.1=some l:=λp hp=>by
 obtain⟨j,hj,_,rfl⟩:=(h.has p).1 hp;exact AV gp hj
def a1m(w0:FC)(rows:ae)(ss:O1)(gp g:Nat)(pr:NY)(L:Oc)(a:OA)(w:FC):Prop:=∃r xs,a=SA gp g r pr L/\I5 w0 rows ss gp r xs L w
def I5.free(h:I5 w0 rows ss gp r xs L w)(e:L.getD 0 false=false)(r':Nat):SA gp g r pr L=SA gp g r' pr L:=by
 have q:∀(k:Nat)(v u:NY),L.getD k false=false->slot L k v=slot L k u:=λk v u hk=>by
  rw[slot,slot,aP (by rw[hk];decide),aP (by rw[hk];decide)]
 have e33:L.getD 33 false=false:=by
  by_cases hc:L.getD 33 false=true
  .have:=h.l33 hc;rw[e]at this;cases this
  .simpa using hc
 have e34:L.getD 34 false=false:=by
  by_cases hc:L.getD 34 false=true
  .have:=h.l34 hc;rw[e]at this;cases this
  .simpa using hc
 unfold SA;rw[q 0 (.map (some r)) (.map (some r')) e,q 33 (.map (some r)) (.map (some r')) e33,q 34 (.map (some r)) (.map (some r')) e34]
end
section
variable{a:OA}{L:Oc}{ss:O1}{xs:ar}{g r:Nat}{o:Oz}{x:O7}{P:O8}{rows:ae}{pr:NY}{w w0:FC}
def Hy{v:NY}(ho:o.op=.move x)(hx:a.eval x=v):(execOp a.eval o).run P w=.ok (.value v) w:=by
 unfold execOp;simp only[ho,hx];rfl
def ZH{v:NY}(ho:o.op=.assign x)(hx:a.eval x=v):(execOp a.eval o).run P w=.ok (.value v) w:=by
 unfold execOp;simp only[ho,hx];rfl
def IZ{f:Fn}{v:NY}(ho:o.op=.makeFunc f #[x] #[])(hx:a.eval x=v):(execOp a.eval o).run P w=.ok (.value (.func f #[v] #[])) w:=by
 unfold execOp;simp only[ho,cM,bT,bZ,hx];rfl
def SF(gp g r:Nat)(pr:NY):Act:={tmps:=(.pointer (some ⟨gp,0,none⟩)::pr::undef::undef::.pointer (some ⟨g,0,none⟩)::(.map (some r))::undef::undef::.pointer (some ⟨gp,0,none⟩)::.bool false::undef::(.map (some r))::(.agg (PT 1))::(.pointer (some ⟨gp,0,none⟩))::(.func (.func 78) #[.pointer (some ⟨gp,0,none⟩)] #[])::(.agg (PT 2))::(.pointer (some ⟨gp,0,none⟩))::(.func (.func 80) #[.pointer (some ⟨gp,0,none⟩)] #[])::(.agg (PT 3))::(.pointer (some ⟨gp,0,none⟩))::(.func (.func 82) #[.pointer (some ⟨gp,0,none⟩)] #[])::(.agg (PT 4))::(.pointer (some ⟨gp,0,none⟩))::(.func (.func 84) #[.pointer (some ⟨gp,0,none⟩)] #[])::(.agg (PT 5))::(.pointer (some ⟨gp,0,none⟩))::(.func (.func 86) #[.pointer (some ⟨gp,0,none⟩)] #[])::(.agg (PT 6))::(.pointer (some ⟨gp,0,none⟩))::(.func (.func 88) #[.pointer (some ⟨gp,0,none⟩)] #[])::(.agg (PT 7))::(.pointer (some ⟨gp,0,none⟩))::(.func (.func 90) #[.pointer (some ⟨gp,0,none⟩)] #[])::(.agg (PT 8))::(.pointer (some ⟨gp,0,none⟩))::(.func (.func 92) #[.pointer (some ⟨gp,0,none⟩)] #[])::(.map (some r))::undef::undef::undef::undef::undef::undef::undef::undef::undef::undef::undef::undef::undef::undef::undef::undef::undef::undef::undef::undef::undef::undef::undef::undef::undef::undef::undef::undef::undef::undef::undef::undef::[]).toArray,defers:=[]}
def TY{gp:Nat}(h:∀i,i<35->L.getD i false=true):SA gp g r pr L=SF gp g r pr:=by
 unfold SA SF;simp only[Au (h 0 FU),Au (h 1 FU),Au (h 2 FU),Au (h 3 FU),Au (h 5 FU),Au (h 6 FU),Au (h 7 FU),Au (h 9 FU),Au (h 10 FU),Au (h 11 FU),Au (h 13 FU),Au (h 14 FU),Au (h 15 FU),Au (h 17 FU),Au (h 18 FU),Au (h 19 FU),Au (h 21 FU),Au (h 22 FU),Au (h 23 FU),Au (h 25 FU),Au (h 26 FU),Au (h 27 FU),Au (h 29 FU),Au (h 30 FU),Au (h 31 FU),Au (h 33 FU),Au (h 34 FU)]
def I5.all{gp:Nat}(h:I5 w0 rows ss gp r xs L w)(hl:∀i,i<35->L.getD i false=true):∀p,p∈BN xs↔∃k,k<8/\p=Bl gp k:=λp=>by
 rw[h.has p]
 constructor
 .rintro⟨k,hk,_,e⟩;exact⟨k,hk,e⟩
 .rintro⟨k,hk,e⟩;exact⟨k,hk,hl _ FP,e⟩
end
def Pp(I:Nat->ae->Prop)(w0:FC)(front:O9)(ss:O1)(w:FC)(n:Nat):Prop:=∃R,I n R/\Own w0 w (front::R) ss
def VL(gp:Nat):(Bl gp 0).2=.func (.func 78) #[.pointer (some ⟨gp,0,none⟩)] #[]:=rfl
def a0S(gp:Nat):(Bl gp 1).2=.func (.func 80) #[.pointer (some ⟨gp,0,none⟩)] #[]:=rfl
def RZ(gp:Nat):(Bl gp 2).2=.func (.func 82) #[.pointer (some ⟨gp,0,none⟩)] #[]:=rfl
def YF(gp:Nat):(Bl gp 3).2=.func (.func 84) #[.pointer (some ⟨gp,0,none⟩)] #[]:=rfl
def UM(gp:Nat):(Bl gp 4).2=.func (.func 86) #[.pointer (some ⟨gp,0,none⟩)] #[]:=rfl
def Z8(gp:Nat):(Bl gp 5).2=.func (.func 88) #[.pointer (some ⟨gp,0,none⟩)] #[]:=rfl
def RC(gp:Nat):(Bl gp 6).2=.func (.func 90) #[.pointer (some ⟨gp,0,none⟩)] #[]:=rfl
def Zh(gp:Nat):(Bl gp 7).2=.func (.func 92) #[.pointer (some ⟨gp,0,none⟩)] #[]:=rfl
def zG{gp:Nat}{gr:Nat}{pt hs ms ts cs ds er:ai}{RR:ae}{w0 w:FC}{ss:O1}(hm:Own w0 w ((gp,PR pt hs ms ts cs ds er)::RR) ss)(I:Nat->ae->Prop)(n0:Nat)(hI0:I n0 ((gp,PR pt hs ms ts cs ds er)::RR))(HI:∀n R,I n R->∃(k:Nat)(hs ms ts cs ds er:ai)(RR2:ae),R=(gp,PR (PT (k+1)) hs ms ts cs ds er)::RR2/\k<8/\aq (PT (k+1)) hs ms ts cs ds er)(J:Int->Int->Int->Int->Int->Value->Int->ae->Prop)(HC:Hid (∀n k hs ms ts cs ds er RR2 W f ss',k<8->I n ((gp,PR (PT ((k:Nat)+1)) hs ms ts cs ds er)::RR2)->Own w0 W (f::(gp,PR (PT (k+1)) hs ms ts cs ds er)::RR2) ss'->ak (78+2*k) #[.pointer (some ⟨gp,0,none⟩),gr] W λx w'=>∃kd n1 m p s v e told R',x=.returned (.tuple #[.agg (aw kd n1 m p s v e),.bool told])/\v.oneCell'=true/\Own w0 w' (f::R') ss'/\(told=true->J kd n1 m p s v e R')/\(told=false->∃m,m<n/\I m R'))):ak 38 #[.pointer (some ⟨gp,0,none⟩),gr] w λx w'=>∃kd n m p s v e R',x=.returned (.agg (aw kd n m p s v e))/\J kd n m p s v e R'/\Own w0 w' R' ss:=by
 go_enter func38,ntmps38
 go_upto_region 3 with((with_reducible refine wa 76 hm BX ?_;clear hm;intro w g hm))
 refine a1g rfl FZ (a1m w0 ((g,aw 0 0 0 0 0 (.slice none 0 0) 0)::(gp,PR pt hs ms ts cs ds er)::RR) ss gp g (.pointer gr)) (λL i a w hz0 hi hI=>?_) (λL a w hall hI=>?_) ⟨0,[],rfl,I5.start (hm.drawn _)⟩
 .clear hm;obtain⟨r,xs,rfl,hM⟩:=hI;have hlt:i<35:=dS.1 (lX.1 hi).1;have hs:L.size=35:=hz0;have hc:i=0\/i=1\/i=2\/i=3\/i=4\/i=5\/i=6\/i=7\/i=8\/i=9\/i=10\/i=11\/i=12\/i=13\/i=14\/i=15\/i=16\/i=17\/i=18\/i=19\/i=20\/i=21\/i=22\/i=23\/i=24\/i=25\/i=26\/i=27\/i=28\/i=29\/i=30\/i=31\/i=32\/i=33\/i=34:=FP
  rcases hc with rfl|rfl|rfl|rfl|rfl|rfl|rfl|rfl|rfl|rfl|rfl|rfl|rfl|rfl|rfl|rfl|rfl|rfl|rfl|rfl|rfl|rfl|rfl|rfl|rfl|rfl|rfl|rfl|rfl|rfl|rfl|rfl|rfl|rfl|rfl
  .refine Dx rfl rfl (λK hK=>(BD (hM.off (Ap hz0 hi rfl).1).1 rfl (λw' r' hm' hd=>?_)).wp (λv w' h=>hK _ _ h));rw[hM.free (Ap hz0 hi rfl).1 r'];exact⟨r',[],yG FP,hM.made FP (Ap hz0 hi rfl).1 hm' hd⟩
  .refine Dx rfl rfl (λK hK=>?_);go_simp;refine(iG).mono ?_;rintro e w1⟨rfl,hb⟩;refine hK _ _ ?_;exact⟨r,xs,yF FP,(hM.quiet FU FP (λh=>absurd h FU)).call hb⟩
  .refine Dx rfl rfl (λK hK=>(Eff.val (v:=(.pointer (some ⟨gp,0,none⟩))) (w':=w) (Hy rfl rfl) ?_).wp (λv w' h=>hK _ _ h));exact⟨r,xs,yE FP,hM.quiet FU FP (λh=>absurd h FU)⟩
  .have d2:L.getD 2 false=true:=(Ap hz0 hi rfl).2 ⟨2,.data⟩ G5 rfl;refine Dx rfl rfl (λK hK=>(Eff.val (v:=(.func (.func 78) #[.pointer (some ⟨gp,0,none⟩)] #[])) (w':=w) (IZ rfl (by exact Au d2)) ?_).wp (λv w' h=>hK _ _ h));exact⟨r,xs,yD FP,hM.quiet FU FP (λh=>absurd h FU)⟩
  .have d0:L.getD 0 false=true:=(Ap hz0 hi rfl).2 ⟨0,.data⟩ G5 rfl;have d1:L.getD 1 false=true:=(Ap hz0 hi rfl).2 ⟨1,.data⟩ G5 rfl;have d3:L.getD 3 false=true:=(Ap hz0 hi rfl).2 ⟨3,.data⟩ G5 rfl;refine Dx rfl rfl (λK hK=>(Bj (k:=(Bl gp 0).1) (v:=(Bl gp 0).2) (hM.on d0).1 (hM.on d0).2 rfl GZ (by exact Au d1) (by exact Au d3) underlying151 GL (AV gp FU) hM.keyed (hM.new FU (Ap hz0 hi rfl).1) (λw' hm'=>?_)).wp (λv w' h=>hK _ _ h));exact⟨r,_,yI,hM.put (k:=0) FU FP hm' d0⟩
  .refine Dx rfl rfl (λK hK=>?_);go_simp;refine(WW).mono ?_;rintro e w1⟨rfl,hb⟩;refine hK _ _ ?_;exact⟨r,xs,a1O FP,(hM.quiet FU FP (λh=>absurd h FU)).call hb⟩
  .refine Dx rfl rfl (λK hK=>(Eff.val (v:=(.pointer (some ⟨gp,0,none⟩))) (w':=w) (Hy rfl rfl) ?_).wp (λv w' h=>hK _ _ h));exact⟨r,xs,yB FP,hM.quiet FU FP (λh=>absurd h FU)⟩
  .have d6:L.getD 6 false=true:=(Ap hz0 hi rfl).2 ⟨6,.data⟩ G5 rfl;refine Dx rfl rfl (λK hK=>(Eff.val (v:=(.func (.func 80) #[.pointer (some ⟨gp,0,none⟩)] #[])) (w':=w) (IZ rfl (by exact Au d6)) ?_).wp (λv w' h=>hK _ _ h));exact⟨r,xs,yA FP,hM.quiet FU FP (λh=>absurd h FU)⟩
  .have d0:L.getD 0 false=true:=(Ap hz0 hi rfl).2 ⟨0,.data⟩ G5 rfl;have d5:L.getD 5 false=true:=(Ap hz0 hi rfl).2 ⟨5,.data⟩ G5 rfl;have d7:L.getD 7 false=true:=(Ap hz0 hi rfl).2 ⟨7,.data⟩ G5 rfl;refine Dx rfl rfl (λK hK=>(Bj (k:=(Bl gp 1).1) (v:=(Bl gp 1).2) (hM.on d0).1 (hM.on d0).2 rfl GZ (by exact Au d5) (by exact Au d7) underlying151 GL (AV gp FU) hM.keyed (hM.new FU (Ap hz0 hi rfl).1) (λw' hm'=>?_)).wp (λv w' h=>hK _ _ h));exact⟨r,_,yH,hM.put (k:=1) FU FP hm' d0⟩
  .refine Dx rfl rfl (λK hK=>?_);go_simp;refine(WV).mono ?_;rintro e w1⟨rfl,hb⟩;refine hK _ _ ?_;exact⟨r,xs,yx FP,(hM.quiet FU FP (λh=>absurd h FU)).call hb⟩
  .refine Dx rfl rfl (λK hK=>(Eff.val (v:=(.pointer (some ⟨gp,0,none⟩))) (w':=w) (Hy rfl rfl) ?_).wp (λv w' h=>hK _ _ h));exact⟨r,xs,a17 FP,hM.quiet FU FP (λh=>absurd h FU)⟩
  .have d10:L.getD 10 false=true:=(Ap hz0 hi rfl).2 ⟨10,.data⟩ G5 rfl;refine Dx rfl rfl (λK hK=>(Eff.val (v:=(.func (.func 82) #[.pointer (some ⟨gp,0,none⟩)] #[])) (w':=w) (IZ rfl (by exact Au d10)) ?_).wp (λv w' h=>hK _ _ h));exact⟨r,xs,a0d FP,hM.quiet FU FP (λh=>absurd h FU)⟩
  .have d0:L.getD 0 false=true:=(Ap hz0 hi rfl).2 ⟨0,.data⟩ G5 rfl;have d9:L.getD 9 false=true:=(Ap hz0 hi rfl).2 ⟨9,.data⟩ G5 rfl;have d11:L.getD 11 false=true:=(Ap hz0 hi rfl).2 ⟨11,.data⟩ G5 rfl;refine Dx rfl rfl (λK hK=>(Bj (k:=(Bl gp 2).1) (v:=(Bl gp 2).2) (hM.on d0).1 (hM.on d0).2 rfl GZ (by exact Au d9) (by exact Au d11) underlying151 GL (AV gp FU) hM.keyed (hM.new FU (Ap hz0 hi rfl).1) (λw' hm'=>?_)).wp (λv w' h=>hK _ _ h));exact⟨r,_,a1d,hM.put (k:=2) FU FP hm' d0⟩
  .refine Dx rfl rfl (λK hK=>?_);go_simp;refine(iF).mono ?_;rintro e w1⟨rfl,hb⟩;refine hK _ _ ?_;exact⟨r,xs,pJ FP,(hM.quiet FU FP (λh=>absurd h FU)).call hb⟩
  .refine Dx rfl rfl (λK hK=>(Eff.val (v:=(.pointer (some ⟨gp,0,none⟩))) (w':=w) (Hy rfl rfl) ?_).wp (λv w' h=>hK _ _ h));exact⟨r,xs,pI FP,hM.quiet FU FP (λh=>absurd h FU)⟩
  .have d14:L.getD 14 false=true:=(Ap hz0 hi rfl).2 ⟨14,.data⟩ G5 rfl;refine Dx rfl rfl (λK hK=>(Eff.val (v:=(.func (.func 84) #[.pointer (some ⟨gp,0,none⟩)] #[])) (w':=w) (IZ rfl (by exact Au d14)) ?_).wp (λv w' h=>hK _ _ h));exact⟨r,xs,a0F FP,hM.quiet FU FP (λh=>absurd h FU)⟩
  .have d0:L.getD 0 false=true:=(Ap hz0 hi rfl).2 ⟨0,.data⟩ G5 rfl;have d13:L.getD 13 false=true:=(Ap hz0 hi rfl).2 ⟨13,.data⟩ G5 rfl;have d15:L.getD 15 false=true:=(Ap hz0 hi rfl).2 ⟨15,.data⟩ G5 rfl;refine Dx rfl rfl (λK hK=>(Bj (k:=(Bl gp 3).1) (v:=(Bl gp 3).2) (hM.on d0).1 (hM.on d0).2 rfl GZ (by exact Au d13) (by exact Au d15) underlying151 GL (AV gp FU) hM.keyed (hM.new FU (Ap hz0 hi rfl).1) (λw' hm'=>?_)).wp (λv w' h=>hK _ _ h));exact⟨r,_,pX,hM.put (k:=3) FU FP hm' d0⟩
  .refine Dx rfl rfl (λK hK=>?_);go_simp;refine(OS).mono ?_;rintro e w1⟨rfl,hb⟩;refine hK _ _ ?_;exact⟨r,xs,pF FP,(hM.quiet FU FP (λh=>absurd h FU)).call hb⟩
  .refine Dx rfl rfl (λK hK=>(Eff.val (v:=(.pointer (some ⟨gp,0,none⟩))) (w':=w) (Hy rfl rfl) ?_).wp (λv w' h=>hK _ _ h));exact⟨r,xs,Zt FP,hM.quiet FU FP (λh=>absurd h FU)⟩
  .have d18:L.getD 18 false=true:=(Ap hz0 hi rfl).2 ⟨18,.data⟩ G5 rfl;refine Dx rfl rfl (λK hK=>(Eff.val (v:=(.func (.func 86) #[.pointer (some ⟨gp,0,none⟩)] #[])) (w':=w) (IZ rfl (by exact Au d18)) ?_).wp (λv w' h=>hK _ _ h));exact⟨r,xs,A67 FP,hM.quiet FU FP (λh=>absurd h FU)⟩
  .have d0:L.getD 0 false=true:=(Ap hz0 hi rfl).2 ⟨0,.data⟩ G5 rfl;have d17:L.getD 17 false=true:=(Ap hz0 hi rfl).2 ⟨17,.data⟩ G5 rfl;have d19:L.getD 19 false=true:=(Ap hz0 hi rfl).2 ⟨19,.data⟩ G5 rfl;refine Dx rfl rfl (λK hK=>(Bj (k:=(Bl gp 4).1) (v:=(Bl gp 4).2) (hM.on d0).1 (hM.on d0).2 rfl GZ (by exact Au d17) (by exact Au d19) underlying151 GL (AV gp FU) hM.keyed (hM.new FU (Ap hz0 hi rfl).1) (λw' hm'=>?_)).wp (λv w' h=>hK _ _ h));exact⟨r,_,pW,hM.put (k:=4) FU FP hm' d0⟩
  .refine Dx rfl rfl (λK hK=>?_);go_simp;refine(WU).mono ?_;rintro e w1⟨rfl,hb⟩;refine hK _ _ ?_;exact⟨r,xs,a0g FP,(hM.quiet FU FP (λh=>absurd h FU)).call hb⟩
  .refine Dx rfl rfl (λK hK=>(Eff.val (v:=(.pointer (some ⟨gp,0,none⟩))) (w':=w) (Hy rfl rfl) ?_).wp (λv w' h=>hK _ _ h));exact⟨r,xs,a1H FP,hM.quiet FU FP (λh=>absurd h FU)⟩
  .have d22:L.getD 22 false=true:=(Ap hz0 hi rfl).2 ⟨22,.data⟩ G5 rfl;refine Dx rfl rfl (λK hK=>(Eff.val (v:=(.func (.func 88) #[.pointer (some ⟨gp,0,none⟩)] #[])) (w':=w) (IZ rfl (by exact Au d22)) ?_).wp (λv w' h=>hK _ _ h));exact⟨r,xs,a15 FP,hM.quiet FU FP (λh=>absurd h FU)⟩
  .have d0:L.getD 0 false=true:=(Ap hz0 hi rfl).2 ⟨0,.data⟩ G5 rfl;have d21:L.getD 21 false=true:=(Ap hz0 hi rfl).2 ⟨21,.data⟩ G5 rfl;have d23:L.getD 23 false=true:=(Ap hz0 hi rfl).2 ⟨23,.data⟩ G5 rfl;refine Dx rfl rfl (λK hK=>(Bj (k:=(Bl gp 5).1) (v:=(Bl gp 5).2) (hM.on d0).1 (hM.on d0).2 rfl GZ (by exact Au d21) (by exact Au d23) underlying151 GL (AV gp FU) hM.keyed (hM.new FU (Ap hz0 hi rfl).1) (λw' hm'=>?_)).wp (λv w' h=>hK _ _ h));exact⟨r,_,a1e,hM.put (k:=5) FU FP hm' d0⟩
  .refine Dx rfl rfl (λK hK=>?_);go_simp;refine(iD).mono ?_;rintro e w1⟨rfl,hb⟩;refine hK _ _ ?_;exact⟨r,xs,oU FP,(hM.quiet FU FP (λh=>absurd h FU)).call hb⟩
  .refine Dx rfl rfl (λK hK=>(Eff.val (v:=(.pointer (some ⟨gp,0,none⟩))) (w':=w) (Hy rfl rfl) ?_).wp (λv w' h=>hK _ _ h));exact⟨r,xs,oQ FP,hM.quiet FU FP (λh=>absurd h FU)⟩
  .have d26:L.getD 26 false=true:=(Ap hz0 hi rfl).2 ⟨26,.data⟩ G5 rfl;refine Dx rfl rfl (λK hK=>(Eff.val (v:=(.func (.func 90) #[.pointer (some ⟨gp,0,none⟩)] #[])) (w':=w) (IZ rfl (by exact Au d26)) ?_).wp (λv w' h=>hK _ _ h));exact⟨r,xs,a0q FP,hM.quiet FU FP (λh=>absurd h FU)⟩
  .have d0:L.getD 0 false=true:=(Ap hz0 hi rfl).2 ⟨0,.data⟩ G5 rfl;have d25:L.getD 25 false=true:=(Ap hz0 hi rfl).2 ⟨25,.data⟩ G5 rfl;have d27:L.getD 27 false=true:=(Ap hz0 hi rfl).2 ⟨27,.data⟩ G5 rfl;refine Dx rfl rfl (λK hK=>(Bj (k:=(Bl gp 6).1) (v:=(Bl gp 6).2) (hM.on d0).1 (hM.on d0).2 rfl GZ (by exact Au d25) (by exact Au d27) underlying151 GL (AV gp FU) hM.keyed (hM.new FU (Ap hz0 hi rfl).1) (λw' hm'=>?_)).wp (λv w' h=>hK _ _ h));exact⟨r,_,pU,hM.put (k:=6) FU FP hm' d0⟩
  .refine Dx rfl rfl (λK hK=>?_);go_simp;refine(iC).mono ?_;rintro e w1⟨rfl,hb⟩;refine hK _ _ ?_;exact⟨r,xs,oO FP,(hM.quiet FU FP (λh=>absurd h FU)).call hb⟩
  .refine Dx rfl rfl (λK hK=>(Eff.val (v:=(.pointer (some ⟨gp,0,none⟩))) (w':=w) (Hy rfl rfl) ?_).wp (λv w' h=>hK _ _ h));exact⟨r,xs,oN FP,hM.quiet FU FP (λh=>absurd h FU)⟩
  .have d30:L.getD 30 false=true:=(Ap hz0 hi rfl).2 ⟨30,.data⟩ G5 rfl;refine Dx rfl rfl (λK hK=>(Eff.val (v:=(.func (.func 92) #[.pointer (some ⟨gp,0,none⟩)] #[])) (w':=w) (IZ rfl (by exact Au d30)) ?_).wp (λv w' h=>hK _ _ h));exact⟨r,xs,oM FP,hM.quiet FU FP (λh=>absurd h FU)⟩
  .have d0:L.getD 0 false=true:=(Ap hz0 hi rfl).2 ⟨0,.data⟩ G5 rfl;have d29:L.getD 29 false=true:=(Ap hz0 hi rfl).2 ⟨29,.data⟩ G5 rfl;have d31:L.getD 31 false=true:=(Ap hz0 hi rfl).2 ⟨31,.data⟩ G5 rfl;refine Dx rfl rfl (λK hK=>(Bj (k:=(Bl gp 7).1) (v:=(Bl gp 7).2) (hM.on d0).1 (hM.on d0).2 rfl GZ (by exact Au d29) (by exact Au d31) underlying151 GL (AV gp FU) hM.keyed (hM.new FU (Ap hz0 hi rfl).1) (λw' hm'=>?_)).wp (λv w' h=>hK _ _ h));exact⟨r,_,pR,hM.put (k:=7) FU FP hm' d0⟩
  .have d0:L.getD 0 false=true:=(Ap hz0 hi rfl).2 ⟨0,.data⟩ G5 rfl;refine Dx rfl rfl (λK hK=>(Eff.val (v:=(.map (some r))) (w':=w) (Hy rfl GZ) ?_).wp (λv w' h=>hK _ _ h));exact⟨r,xs,oL FP,hM.quiet FU FP (λ_=>d0)⟩
  .have d33:L.getD 33 false=true:=(Ap hz0 hi rfl).2 ⟨33,.data⟩ G5 rfl;have d0:=hM.l33 d33;refine Dx rfl rfl (λK hK=>(Eff.val (v:=(.map (some r))) (w':=w) (ZH rfl (by exact Au d33)) ?_).wp (λv w' h=>hK _ _ h));exact⟨r,xs,oK FP,hM.quiet FU FP (λ_=>d0)⟩
 .obtain⟨r,xs,rfl,hM⟩:=hI;have hall:∀i,i<35->L.getD i false=true:=hall;rw[TY hall];have HM:=aa (hM.all hall);have hd:=(hM.on (hall 0 FU)).2;replace hm:=(hM.on (hall 0 FU)).1;clear hM hall;unfold SF;go_simp
  (rename_i hK;refine hK _ _ ?_;clear hK)
  go_wp2_with fail
  go_loopw[] (λwr=>∃n,Pp I w0 (g,aw 0 0 0 0 0 (.slice none 0 0) 0) (IK r xs::ss) wr n) (λwr=>Po (Pp I w0 (g,aw 0 0 0 0 0 (.slice none 0 0) 0) (IK r xs::ss) wr))
  case atStart=>exact⟨n0,_,hI0,hm⟩
  case round=>
   obtain⟨n1,hn1⟩:=hrel;have hn:=YV hn1;obtain⟨R,hI,hm⟩:=hn;obtain⟨k,hs2,ms2,ts2,cs2,ds2,er2,RR2,rfl,hk,hz2⟩:=HI _ _ hI
   go_upto_region 4 with fail
   refine rO hm 18 (.am [(0,false),(1,false),(2,false),(3,false),(4,false),(5,false),(6,true)] (.one 7 (.am [(8,false),(9,false),(10,false),(11,false),(12,false),(13,false),(14,true)] (.one 15 (.am [(16,false),(17,false)] .done))))) ?_;clear hm;intro w hm;simp only[KT.am]
   iterate 3 refine kq ?_
   ((refine Bz rfl rfl ?_))
   try simp only[Act.put,s3]
   ((refine Bz rfl rfl ?_))
   try simp only[Act.put,s3]
   ((refine Bz rfl rfl ?_))
   try simp only[Act.put,s3]
   ((refine D6 rfl rfl ?_))
   try simp only[Act.put,s3]
   refine zH hm rfl rfl ?_
   try simp only[Act.put,s3]
   ((refine Bz rfl rfl ?_))
   try simp only[Act.put,s3]
   iterate 2 refine kq ?_
   ((refine Bz rfl rfl ?_))
   try simp only[Act.put,s3]
   ((refine Bz rfl rfl ?_))
   try simp only[Act.put,s3]
   ((refine Bz rfl rfl ?_))
   try simp only[Act.put,s3]
   ((refine D6 rfl rfl ?_))
   try simp only[Act.put,s3]
   refine zH hm rfl rfl ?_
   try simp only[Act.put,s3]
   ((refine Bz rfl rfl ?_))
   try simp only[Act.put,s3]
   refine kq ?_;refine Ba ?_;go_simp;have hkk:k=0\/k=1\/k=2\/k=3\/k=4\/k=5\/k=6\/k=7:=FP
   rcases hkk with rfl|rfl|rfl|rfl|rfl|rfl|rfl|rfl
   .go_wp2_with(first
     |with_reducible refine bh (t:=134) ?_;(refine A8 rfl (cg 1 hm rfl rfl rfl (FD hz2) Cm (FH hz2)) ?_)
     |with_reducible refine gk ?_;(refine A8 rfl (Ez (k:=(Bl gp 0).1) (v:=.func (.func 78) #[.pointer (some ⟨gp,0,none⟩)] #[]) 0 hm rfl rfl rfl rfl underlying151 GL (AV gp FU) (λp hp=>by obtain⟨j,hj,rfl⟩:=(HM.o p).1 hp;exact AV gp hj) ⟨Bl gp 0,(HM.o (Bl gp 0)).2 ⟨0,FU,rfl⟩,rfl⟩ (λp hp e=>by obtain⟨j,hj,rfl⟩:=(HM.o p).1 hp;have q:=EK (gp:=gp) (k:=j) (j:=0) e;subst q;exact VL gp)) ?_)
     |(go_at_call 78;have _t:=hm;refine(HC.o _ 0 _ _ _ _ _ _ _ _ _ _ FU hI hm).mono ?_;clear _t hm;rintro x w1⟨kd,nn,mm,pp,sx,v,e,told,R3,rfl,hv,hm,hJ,hN⟩;cases told)
     |with_reducible refine wa 76 hm BX ?_;clear hm;intro w g hm
     |with_reducible (first|refine ws 76 0 hm ?_ (h1:=al (Ak hv))|refine ws 76 1 hm ?_ (h1:=al (Ak hv)));clear hm;intro w hm
     |with_reducible refine aM 76 0 hm ?_)
    .exact lz
    .exact mi
   .go_wp2_with(first
     |with_reducible refine bh (t:=134) ?_;(refine A8 rfl (cg 1 hm rfl rfl rfl (FD hz2) Cm (FH hz2)) ?_)
     |with_reducible refine gk ?_;(refine A8 rfl (Ez (k:=(Bl gp 1).1) (v:=.func (.func 80) #[.pointer (some ⟨gp,0,none⟩)] #[]) 0 hm rfl rfl rfl rfl underlying151 GL (AV gp FU) (λp hp=>by obtain⟨j,hj,rfl⟩:=(HM.o p).1 hp;exact AV gp hj) ⟨Bl gp 1,(HM.o (Bl gp 1)).2 ⟨1,FU,rfl⟩,rfl⟩ (λp hp e=>by obtain⟨j,hj,rfl⟩:=(HM.o p).1 hp;have q:=EK (gp:=gp) (k:=j) (j:=1) e;subst q;exact a0S gp)) ?_)
     |(go_at_call 80;have _t:=hm;refine(HC.o _ 1 _ _ _ _ _ _ _ _ _ _ FU hI hm).mono ?_;clear _t hm;rintro x w1⟨kd,nn,mm,pp,sx,v,e,told,R3,rfl,hv,hm,hJ,hN⟩;cases told)
     |with_reducible refine wa 76 hm BX ?_;clear hm;intro w g hm
     |with_reducible (first|refine ws 76 0 hm ?_ (h1:=al (Ak hv))|refine ws 76 1 hm ?_ (h1:=al (Ak hv)));clear hm;intro w hm
     |with_reducible refine aM 76 0 hm ?_)
    .exact lz
    .exact mi
   .go_wp2_with(first
     |with_reducible refine bh (t:=134) ?_;(refine A8 rfl (cg 1 hm rfl rfl rfl (FD hz2) Cm (FH hz2)) ?_)
     |with_reducible refine gk ?_;(refine A8 rfl (Ez (k:=(Bl gp 2).1) (v:=.func (.func 82) #[.pointer (some ⟨gp,0,none⟩)] #[]) 0 hm rfl rfl rfl rfl underlying151 GL (AV gp FU) (λp hp=>by obtain⟨j,hj,rfl⟩:=(HM.o p).1 hp;exact AV gp hj) ⟨Bl gp 2,(HM.o (Bl gp 2)).2 ⟨2,FU,rfl⟩,rfl⟩ (λp hp e=>by obtain⟨j,hj,rfl⟩:=(HM.o p).1 hp;have q:=EK (gp:=gp) (k:=j) (j:=2) e;subst q;exact RZ gp)) ?_)
     |(go_at_call 82;have _t:=hm;refine(HC.o _ 2 _ _ _ _ _ _ _ _ _ _ FU hI hm).mono ?_;clear _t hm;rintro x w1⟨kd,nn,mm,pp,sx,v,e,told,R3,rfl,hv,hm,hJ,hN⟩;cases told)
     |with_reducible refine wa 76 hm BX ?_;clear hm;intro w g hm
     |with_reducible (first|refine ws 76 0 hm ?_ (h1:=al (Ak hv))|refine ws 76 1 hm ?_ (h1:=al (Ak hv)));clear hm;intro w hm
     |with_reducible refine aM 76 0 hm ?_)
    .exact lz
    .exact mi
   .go_wp2_with(first
     |with_reducible refine bh (t:=134) ?_;(refine A8 rfl (cg 1 hm rfl rfl rfl (FD hz2) Cm (FH hz2)) ?_)
     |with_reducible refine gk ?_;(refine A8 rfl (Ez (k:=(Bl gp 3).1) (v:=.func (.func 84) #[.pointer (some ⟨gp,0,none⟩)] #[]) 0 hm rfl rfl rfl rfl underlying151 GL (AV gp FU) (λp hp=>by obtain⟨j,hj,rfl⟩:=(HM.o p).1 hp;exact AV gp hj) ⟨Bl gp 3,(HM.o (Bl gp 3)).2 ⟨3,FU,rfl⟩,rfl⟩ (λp hp e=>by obtain⟨j,hj,rfl⟩:=(HM.o p).1 hp;have q:=EK (gp:=gp) (k:=j) (j:=3) e;subst q;exact YF gp)) ?_)
     |(go_at_call 84;have _t:=hm;refine(HC.o _ 3 _ _ _ _ _ _ _ _ _ _ FU hI hm).mono ?_;clear _t hm;rintro x w1⟨kd,nn,mm,pp,sx,v,e,told,R3,rfl,hv,hm,hJ,hN⟩;cases told)
     |with_reducible refine wa 76 hm BX ?_;clear hm;intro w g hm
     |with_reducible (first|refine ws 76 0 hm ?_ (h1:=al (Ak hv))|refine ws 76 1 hm ?_ (h1:=al (Ak hv)));clear hm;intro w hm
     |with_reducible refine aM 76 0 hm ?_)
    .exact lz
    .exact mi
   .go_wp2_with(first
     |with_reducible refine bh (t:=134) ?_;(refine A8 rfl (cg 1 hm rfl rfl rfl (FD hz2) Cm (FH hz2)) ?_)
     |with_reducible refine gk ?_;(refine A8 rfl (Ez (k:=(Bl gp 4).1) (v:=.func (.func 86) #[.pointer (some ⟨gp,0,none⟩)] #[]) 0 hm rfl rfl rfl rfl underlying151 GL (AV gp FU) (λp hp=>by obtain⟨j,hj,rfl⟩:=(HM.o p).1 hp;exact AV gp hj) ⟨Bl gp 4,(HM.o (Bl gp 4)).2 ⟨4,FU,rfl⟩,rfl⟩ (λp hp e=>by obtain⟨j,hj,rfl⟩:=(HM.o p).1 hp;have q:=EK (gp:=gp) (k:=j) (j:=4) e;subst q;exact UM gp)) ?_)
     |(go_at_call 86;have _t:=hm;refine(HC.o _ 4 _ _ _ _ _ _ _ _ _ _ FU hI hm).mono ?_;clear _t hm;rintro x w1⟨kd,nn,mm,pp,sx,v,e,told,R3,rfl,hv,hm,hJ,hN⟩;cases told)
     |with_reducible refine wa 76 hm BX ?_;clear hm;intro w g hm
     |with_reducible (first|refine ws 76 0 hm ?_ (h1:=al (Ak hv))|refine ws 76 1 hm ?_ (h1:=al (Ak hv)));clear hm;intro w hm
     |with_reducible refine aM 76 0 hm ?_)
    .exact lz
    .exact mi
   .go_wp2_with(first
     |with_reducible refine bh (t:=134) ?_;(refine A8 rfl (cg 1 hm rfl rfl rfl (FD hz2) Cm (FH hz2)) ?_)
     |with_reducible refine gk ?_;(refine A8 rfl (Ez (k:=(Bl gp 5).1) (v:=.func (.func 88) #[.pointer (some ⟨gp,0,none⟩)] #[]) 0 hm rfl rfl rfl rfl underlying151 GL (AV gp FU) (λp hp=>by obtain⟨j,hj,rfl⟩:=(HM.o p).1 hp;exact AV gp hj) ⟨Bl gp 5,(HM.o (Bl gp 5)).2 ⟨5,FU,rfl⟩,rfl⟩ (λp hp e=>by obtain⟨j,hj,rfl⟩:=(HM.o p).1 hp;have q:=EK (gp:=gp) (k:=j) (j:=5) e;subst q;exact Z8 gp)) ?_)
     |(go_at_call 88;have _t:=hm;refine(HC.o _ 5 _ _ _ _ _ _ _ _ _ _ FU hI hm).mono ?_;clear _t hm;rintro x w1⟨kd,nn,mm,pp,sx,v,e,told,R3,rfl,hv,hm,hJ,hN⟩;cases told)
     |with_reducible refine wa 76 hm BX ?_;clear hm;intro w g hm
     |with_reducible (first|refine ws 76 0 hm ?_ (h1:=al (Ak hv))|refine ws 76 1 hm ?_ (h1:=al (Ak hv)));clear hm;intro w hm
     |with_reducible refine aM 76 0 hm ?_)
    .exact lz
    .exact mi
   .go_wp2_with(first
     |with_reducible refine bh (t:=134) ?_;(refine A8 rfl (cg 1 hm rfl rfl rfl (FD hz2) Cm (FH hz2)) ?_)
     |with_reducible refine gk ?_;(refine A8 rfl (Ez (k:=(Bl gp 6).1) (v:=.func (.func 90) #[.pointer (some ⟨gp,0,none⟩)] #[]) 0 hm rfl rfl rfl rfl underlying151 GL (AV gp FU) (λp hp=>by obtain⟨j,hj,rfl⟩:=(HM.o p).1 hp;exact AV gp hj) ⟨Bl gp 6,(HM.o (Bl gp 6)).2 ⟨6,FU,rfl⟩,rfl⟩ (λp hp e=>by obtain⟨j,hj,rfl⟩:=(HM.o p).1 hp;have q:=EK (gp:=gp) (k:=j) (j:=6) e;subst q;exact RC gp)) ?_)
     |(go_at_call 90;have _t:=hm;refine(HC.o _ 6 _ _ _ _ _ _ _ _ _ _ FU hI hm).mono ?_;clear _t hm;rintro x w1⟨kd,nn,mm,pp,sx,v,e,told,R3,rfl,hv,hm,hJ,hN⟩;cases told)
     |with_reducible refine wa 76 hm BX ?_;clear hm;intro w g hm
     |with_reducible (first|refine ws 76 0 hm ?_ (h1:=al (Ak hv))|refine ws 76 1 hm ?_ (h1:=al (Ak hv)));clear hm;intro w hm
     |with_reducible refine aM 76 0 hm ?_)
    .exact lz
    .exact mi
   .go_wp2_with(first
     |with_reducible refine bh (t:=134) ?_;(refine A8 rfl (cg 1 hm rfl rfl rfl (FD hz2) Cm (FH hz2)) ?_)
     |with_reducible refine gk ?_;(refine A8 rfl (Ez (k:=(Bl gp 7).1) (v:=.func (.func 92) #[.pointer (some ⟨gp,0,none⟩)] #[]) 0 hm rfl rfl rfl rfl underlying151 GL (AV gp FU) (λp hp=>by obtain⟨j,hj,rfl⟩:=(HM.o p).1 hp;exact AV gp hj) ⟨Bl gp 7,(HM.o (Bl gp 7)).2 ⟨7,FU,rfl⟩,rfl⟩ (λp hp e=>by obtain⟨j,hj,rfl⟩:=(HM.o p).1 hp;have q:=EK (gp:=gp) (k:=j) (j:=7) e;subst q;exact Zh gp)) ?_)
     |(go_at_call 92;have _t:=hm;refine(HC.o _ 7 _ _ _ _ _ _ _ _ _ _ FU hI hm).mono ?_;clear _t hm;rintro x w1⟨kd,nn,mm,pp,sx,v,e,told,R3,rfl,hv,hm,hJ,hN⟩;cases told)
     |with_reducible refine wa 76 hm BX ?_;clear hm;intro w g hm
     |with_reducible (first|refine ws 76 0 hm ?_ (h1:=al (Ak hv))|refine ws 76 1 hm ?_ (h1:=al (Ak hv)));clear hm;intro w hm
     |with_reducible refine aM 76 0 hm ?_)
    .exact lz
    .exact mi
section
variable{a:OA}{q x y:ai}{b:Bool}{c m n p s:Int}{o:Oz}{P:O8}{t':O4}{w:FC}
def Y8(w:FC)(d:Nat)(t:O4){ps rs:Array TypeId}{f:Fn}(h:P.underlying t=some (.func ps rs b)):(Op.equalIn (d+1) t (.func f x y) .nilFunc).run P w=.ok false w:=by
 simp[Op.equalIn,bL h]
def BH{x y:O7}(ho:o.op=.binOp .eql 211 x y t'){f:Fn}{p:ai}(hx:a.eval x=.func f p q)(hy:a.eval y=.nilFunc):(execOp a.eval o).run prog w=.ok (.value (.bool false)) w:=by
 have h:(Op.equal 211 (.func f p q) .nilFunc).run prog w=.ok false w:=Y8 w 9999 211 underlying211;exact uk
def zL(n0:1<=n)(n1:n<=65536):ak 101 #[.int .i64 n,.agg (MS 0 0 0 0 0 0 0),.int .u8 0] w (RB w (.tuple #[.agg (MS 5 0 0 0 0 0 0),.bool false,.int .i64 0])):=by
 have CV:Hid (∀w,ak 142 #[.int .i64 n,.agg (MS 0 0 0 0 0 0 0)] w (RB w (.bool true))):=λw=>Sr n0 n1;have CM:Hid (∀w,ak 138 #[.int .i64 n,.agg (MS 0 0 0 0 0 0 0),.int .u8 0] w (RB w (.tuple #[.agg (MS 5 0 0 0 0 0 0),.bool true]))):=λw=>A2f;exact ue
def zK(n0:1<=n)(n1:n<=65536):ak 101 #[.int .i64 n,.agg (MS 0 0 0 0 0 0 0),.int .u8 1] w (RB w (.tuple #[.agg (MS 1 0 0 0 0 0 0),.bool false,.int .i64 0])):=by
 have CV:Hid (∀w,ak 142 #[.int .i64 n,.agg (MS 0 0 0 0 0 0 0)] w (RB w (.bool true))):=λw=>Sr n0 n1;have CM:Hid (∀w,ak 138 #[.int .i64 n,.agg (MS 0 0 0 0 0 0 0),.int .u8 1] w (RB w (.tuple #[.agg (MS 1 0 0 0 0 0 0),.bool true]))):=λw=>ZQ;exact ue
def a08(n0:1<=n)(n1:n<=65536)(hc:1<c):ak 101 #[.int .i64 n,.agg (MS 0 0 0 0 0 0 0),.int .u8 c] w (RB w (.tuple #[.agg (MS 0 0 0 0 0 0 0),.bool false,.int .i64 242])):=by
 have CV:Hid (∀w,ak 142 #[.int .i64 n,.agg (MS 0 0 0 0 0 0 0)] w (RB w (.bool true))):=λw=>Sr n0 n1;have CM:Hid (∀w,ak 138 #[.int .i64 n,.agg (MS 0 0 0 0 0 0 0),.int .u8 c] w (RB w (.tuple #[.agg (MS 1 0 0 0 0 0 0),.bool false]))):=λw=>ST hc;exact ue
def zI(n0:1<=n)(n1:n<=65536)(m0:1<=m)(m1:m<=n)(p0:1<=p)(p1:p<=m)(k:Int)(k0:0<=k)(k1:k<=3)(s0:0<=s)(s1:s<2^(8*k).toNat)(s2:s<16777216)(c0:0<=c)(c1:c<=255)(hk:k<3):ak 101 #[.int .i64 n,.agg (MS 3 0 0 m p s k),.int .u8 c] w (RB w (.tuple #[.agg (MS 3 0 0 m p (s*256+c) (k+1)),.bool false,.int .i64 0])):=by
 have CV:Hid (∀w,ak 142 #[.int .i64 n,.agg (MS 3 0 0 m p s k)] w (RB w (.bool true))):=λw=>Yt n0 n1 m0 m1 p0 p1 k k0 k1 s0 s1;have CM:Hid (∀w,ak 141 #[.int .i64 n,.agg (MS 3 0 0 m p s k),.int .u8 c] w (RB w (.tuple #[.agg (MS 3 0 0 m p (s*256+c) (k+1)),.bool true]))):=λw=>qW 3 m p FP FP k0 hk s0 s2 c0 c1;exact tm
def rF(n0:1<=n)(n1:n<=65536)(m0:1<=m)(m1:m<=n)(p0:1<=p)(p1:p<=m)(s0:0<=s)(s1:s<2^(8*(3:Int)).toNat)(s2:s<16777216)(c0:0<=c)(c1:c<=255):ak 101 #[.int .i64 n,.agg (MS 3 0 0 m p s (3:Int)),.int .u8 c] w (RB w (.tuple #[.agg (MS 4 0 0 m p (s*256+c) ((3:Int)+1)),.bool true,.int .i64 0])):=by
 have CV:Hid (∀w,ak 142 #[.int .i64 n,.agg (MS 3 0 0 m p s (3:Int))] w (RB w (.bool true))):=λw=>Yt n0 n1 m0 m1 p0 p1 (3:Int) FU FU s0 s1;have CM:Hid (∀w,ak 141 #[.int .i64 n,.agg (MS 3 0 0 m p s (3:Int)),.int .u8 c] w (RB w (.tuple #[.agg (MS 4 0 0 m p (s*256+c) ((3:Int)+1)),.bool true]))):=λw=>iq 3 m p (3:Int) FP FP FU rfl s0 s2 c0 c1;exact tm
def rH(n0:1<=n)(n1:n<=65536)(k:Int)(k0:0<=k)(k1:k<=3)(s0:0<=s)(s1:s<2^(8*k).toNat)(s2:s<16777216)(c0:0<=c)(c1:c<=255)(hk:k<3):ak 101 #[.int .i64 n,.agg (MS 5 0 0 0 0 s k),.int .u8 c] w (RB w (.tuple #[.agg (MS 5 0 0 0 0 (s*256+c) (k+1)),.bool false,.int .i64 0])):=by
 have CV:Hid (∀w,ak 142 #[.int .i64 n,.agg (MS 5 0 0 0 0 s k)] w (RB w (.bool true))):=λw=>Yr n0 n1 k k0 k1 s0 s1;have CM:Hid (∀w,ak 141 #[.int .i64 n,.agg (MS 5 0 0 0 0 s k),.int .u8 c] w (RB w (.tuple #[.agg (MS 5 0 0 0 0 (s*256+c) (k+1)),.bool true]))):=λw=>qW 5 0 0 FP FP k0 hk s0 s2 c0 c1;exact tm
def lg(n0:1<=n)(n1:n<=65536)(s0:0<=s)(s1:s<2^(8*(3:Int)).toNat)(s2:s<16777216)(c0:0<=c)(c1:c<=255):ak 101 #[.int .i64 n,.agg (MS 5 0 0 0 0 s (3:Int)),.int .u8 c] w (RB w (.tuple #[.agg (MS 6 0 0 0 0 (s*256+c) ((3:Int)+1)),.bool true,.int .i64 0])):=by
 have CV:Hid (∀w,ak 142 #[.int .i64 n,.agg (MS 5 0 0 0 0 s (3:Int))] w (RB w (.bool true))):=λw=>Yr n0 n1 (3:Int) FU FU s0 s1;have CM:Hid (∀w,ak 141 #[.int .i64 n,.agg (MS 5 0 0 0 0 s (3:Int)),.int .u8 c] w (RB w (.tuple #[.agg (MS 6 0 0 0 0 (s*256+c) ((3:Int)+1)),.bool true]))):=λw=>iq 5 0 0 (3:Int) FP FP FU rfl s0 s2 c0 c1;exact tm
end
section
variable{M c m n:Int}{w:FC}
def WA(n0:1<=n)(n1:n<=65536){V:Int}(hv:DX V M=true)(hM0:0<=M)(hM:M<=4)(c0:0<=c)(c1:c<=255)(hV:V<=n)(hd:EZ M c=true)(ho:EL V M c n=true):ak 101 #[.int .i64 n,.agg (MS 1 V M 0 0 0 0),.int .u8 c] w (RB w (.tuple #[.agg (MS 2 0 0 (D5 V M c) 0 0 0),.bool false,.int .i64 0])):=by
 have CV:Hid (∀w,ak 142 #[.int .i64 n,.agg (MS 1 V M 0 0 0 0)] w (RB w (.bool true))):=λw=>O6 n0 n1 hv hM0 hM hV;have CM:Hid (∀w,ak 139 #[.int .i64 n,.agg (MS 1 V M 0 0 0 0),.int .u8 c] w (RB w (.tuple #[.agg (MS 2 0 0 (D5 V M c) 0 0 0),.bool true]))):=λw=>by have:=YN n hv hM0 hM c0 c1 hV FP hd w;rwa[ho]at this
 exact rq
def WB(n0:1<=n)(n1:n<=65536){V:Int}(hv:DX V M=true)(hM0:0<=M)(hM:M<=4)(c0:0<=c)(c1:c<=255)(hV:V<=n)(hd:EZ M c=true)(ho:EL V M c n=false):ak 101 #[.int .i64 n,.agg (MS 1 V M 0 0 0 0),.int .u8 c] w (RB w (.tuple #[.agg (MS 0 0 0 0 0 0 0),.bool false,.int .i64 242])):=by
 have CV:Hid (∀w,ak 142 #[.int .i64 n,.agg (MS 1 V M 0 0 0 0)] w (RB w (.bool true))):=λw=>O6 n0 n1 hv hM0 hM hV;have CM:Hid (∀w,ak 139 #[.int .i64 n,.agg (MS 1 V M 0 0 0 0),.int .u8 c] w (RB w (.tuple #[.agg (MS 2 0 0 (D5 V M c) 0 0 0),.bool false]))):=λw=>by have:=YN n hv hM0 hM c0 c1 hV FP hd w;rwa[ho]at this
 exact rq
def XY(n0:1<=n)(n1:n<=65536){V:Int}(hv:DX V M=true)(hM0:0<=M)(hM:M<=4)(c0:0<=c)(c1:c<=255)(hV:V<=n)(hd:EZ M c=false)(ho:EL V M c n=true):ak 101 #[.int .i64 n,.agg (MS 1 V M 0 0 0 0),.int .u8 c] w (RB w (.tuple #[.agg (MS 1 (D5 V M c) (EM M c) 0 0 0 0),.bool false,.int .i64 0])):=by
 have CV:Hid (∀w,ak 142 #[.int .i64 n,.agg (MS 1 V M 0 0 0 0)] w (RB w (.bool true))):=λw=>O6 n0 n1 hv hM0 hM hV;have CM:Hid (∀w,ak 139 #[.int .i64 n,.agg (MS 1 V M 0 0 0 0),.int .u8 c] w (RB w (.tuple #[.agg (MS 1 (D5 V M c) (EM M c) 0 0 0 0),.bool true]))):=λw=>by have:=je n hv hM0 hM c0 c1 hV FP hd w;rwa[ho]at this
 exact rq
def XZ(n0:1<=n)(n1:n<=65536){V:Int}(hv:DX V M=true)(hM0:0<=M)(hM:M<=4)(c0:0<=c)(c1:c<=255)(hV:V<=n)(hd:EZ M c=false)(ho:EL V M c n=false):ak 101 #[.int .i64 n,.agg (MS 1 V M 0 0 0 0),.int .u8 c] w (RB w (.tuple #[.agg (MS 0 0 0 0 0 0 0),.bool false,.int .i64 242])):=by
 have CV:Hid (∀w,ak 142 #[.int .i64 n,.agg (MS 1 V M 0 0 0 0)] w (RB w (.bool true))):=λw=>O6 n0 n1 hv hM0 hM hV;have CM:Hid (∀w,ak 139 #[.int .i64 n,.agg (MS 1 V M 0 0 0 0),.int .u8 c] w (RB w (.tuple #[.agg (MS 1 (D5 V M c) (EM M c) 0 0 0 0),.bool false]))):=λw=>by have:=je n hv hM0 hM c0 c1 hV FP hd w;rwa[ho]at this
 exact rq
def a0X(n0:1<=n)(n1:n<=65536)(m0:1<=m)(m1:m<=n){V:Int}(hv:DX V M=true)(hM0:0<=M)(hM:M<=4)(c0:0<=c)(c1:c<=255)(hV:V<=m)(hd:EZ M c=true)(ho:EL V M c m=true):ak 101 #[.int .i64 n,.agg (MS 2 V M m 0 0 0),.int .u8 c] w (RB w (.tuple #[.agg (MS 3 0 0 m (D5 V M c) 0 0),.bool false,.int .i64 0])):=by
 have CV:Hid (∀w,ak 142 #[.int .i64 n,.agg (MS 2 V M m 0 0 0)] w (RB w (.bool true))):=λw=>O5 n0 n1 m0 m1 hv hM0 hM hV;have CM:Hid (∀w,ak 140 #[.int .i64 n,.agg (MS 2 V M m 0 0 0),.int .u8 c] w (RB w (.tuple #[.agg (MS 3 0 0 m (D5 V M c) 0 0),.bool true]))):=λw=>by have:=Vz n hv hM0 hM c0 c1 hV FP hd w;rwa[ho]at this
 exact sC
def UC(n0:1<=n)(n1:n<=65536)(m0:1<=m)(m1:m<=n){V:Int}(hv:DX V M=true)(hM0:0<=M)(hM:M<=4)(c0:0<=c)(c1:c<=255)(hV:V<=m)(hd:EZ M c=true)(ho:EL V M c m=false):ak 101 #[.int .i64 n,.agg (MS 2 V M m 0 0 0),.int .u8 c] w (RB w (.tuple #[.agg (MS 0 0 0 0 0 0 0),.bool false,.int .i64 242])):=by
 have CV:Hid (∀w,ak 142 #[.int .i64 n,.agg (MS 2 V M m 0 0 0)] w (RB w (.bool true))):=λw=>O5 n0 n1 m0 m1 hv hM0 hM hV;have CM:Hid (∀w,ak 140 #[.int .i64 n,.agg (MS 2 V M m 0 0 0),.int .u8 c] w (RB w (.tuple #[.agg (MS 3 0 0 m (D5 V M c) 0 0),.bool false]))):=λw=>by have:=Vz n hv hM0 hM c0 c1 hV FP hd w;rwa[ho]at this
 exact sC
def a1z(n0:1<=n)(n1:n<=65536)(m0:1<=m)(m1:m<=n){V:Int}(hv:DX V M=true)(hM0:0<=M)(hM:M<=4)(c0:0<=c)(c1:c<=255)(hV:V<=m)(hd:EZ M c=false)(ho:EL V M c m=true):ak 101 #[.int .i64 n,.agg (MS 2 V M m 0 0 0),.int .u8 c] w (RB w (.tuple #[.agg (MS 2 (D5 V M c) (EM M c) m 0 0 0),.bool false,.int .i64 0])):=by
 have CV:Hid (∀w,ak 142 #[.int .i64 n,.agg (MS 2 V M m 0 0 0)] w (RB w (.bool true))):=λw=>O5 n0 n1 m0 m1 hv hM0 hM hV;have CM:Hid (∀w,ak 140 #[.int .i64 n,.agg (MS 2 V M m 0 0 0),.int .u8 c] w (RB w (.tuple #[.agg (MS 2 (D5 V M c) (EM M c) m 0 0 0),.bool true]))):=λw=>by have:=Z9 n hv hM0 hM c0 c1 hV FP hd w;rwa[ho]at this
 exact sC
def WH(n0:1<=n)(n1:n<=65536)(m0:1<=m)(m1:m<=n){V:Int}(hv:DX V M=true)(hM0:0<=M)(hM:M<=4)(c0:0<=c)(c1:c<=255)(hV:V<=m)(hd:EZ M c=false)(ho:EL V M c m=false):ak 101 #[.int .i64 n,.agg (MS 2 V M m 0 0 0),.int .u8 c] w (RB w (.tuple #[.agg (MS 0 0 0 0 0 0 0),.bool false,.int .i64 242])):=by
 have CV:Hid (∀w,ak 142 #[.int .i64 n,.agg (MS 2 V M m 0 0 0)] w (RB w (.bool true))):=λw=>O5 n0 n1 m0 m1 hv hM0 hM hV;have CM:Hid (∀w,ak 140 #[.int .i64 n,.agg (MS 2 V M m 0 0 0),.int .u8 c] w (RB w (.tuple #[.agg (MS 2 (D5 V M c) (EM M c) m 0 0 0),.bool false]))):=λw=>by have:=Z9 n hv hM0 hM c0 c1 hV FP hd w;rwa[ho]at this
 exact sC
end
section
variable{M c most n s:Int}{k:Nat}
structure VM(V M most:Int):Prop where
 val:DX V M=true
 m0:0<=M
 m4:M<=4
 le:V<=most
def VM.zero(h:0<=most):VM 0 0 most:=⟨FU,FU,FU,h⟩
def VM.next{V:Int}(h:VM V M most)(hm:most<=65536)(c0:0<=c)(c1:c<=255)(ho:EL V M c most=true)(hd:EZ M c=false):VM (D5 V M c) (EM M c) most:=by
 obtain⟨hv,h0,h4,hl⟩:=h;have hle:=gW hv FP h0 h4;simp only[EL,iR]at ho;simp only[EZ,decide_eq_false_iff_not]at hd
 have hc:128<=c:=by
  by_cases h:c<128
  .exact(hd ⟨ho.1,h⟩).elim
  .omega
 rw[D5,EM,aP ho.1,aP ho.1];refine⟨?_,FP,FP,ho.2.1⟩;have e:M=0\/M=1\/M=2\/M=3:=FP
 have hx:0<=c%128/\c%128<128:=FP
 have hy:c-128=c%128:=FP
 rcases e with rfl|rfl|rfl|rfl
 .have hV:V=0:=by simpa[DX]using hv
  have hne:c≠128:=λh=>ho.1 ⟨h,rfl⟩;simp[DX,cQ,hV];omega
 .have hv:(1:Int)<=V/\V<128:=eF hv;exact aW (show(128:Int)<=cQ V c/\cQ V c<16384 by rw[cQ];omega)
 .have hv:(128:Int)<=V/\V<16384:=eF hv;exact aW (show(16384:Int)<=cQ V c/\cQ V c<2097152 by rw[cQ];omega)
 .have hv:(16384:Int)<=V/\V<2097152:=eF hv;exact aW (show(2097152:Int)<=cQ V c/\cQ V c<268435456 by rw[cQ];omega)
def VM.done{V:Int}(h:VM V M most)(ho:EL V M c most=true)(hd:EZ M c=true):1<=D5 V M c/\D5 V M c<=most:=by
 simp only[EL,iR]at ho;simp only[EZ,iR]at hd;rw[D5,aP ho.1];have:=hd.2;omega
structure HT where
 a:Int
 V:Int
 M:Int
def HT.v(t:HT):ai:=HS t.a t.V t.M 0
def HT.ok(t:HT):Prop:=(0<=t.a/\t.a<=2/\t.V=0/\t.M=0)\/t.a=3/\VM t.V t.M 65536
inductive HR where
|go (t:HT)
|done (n:Int)
|bad (e:Int)
def HT.step(t:HT)(c:Int):HR:=
 if t.a=0 then(if c=87 then .go ⟨1,0,0⟩else .bad 240)
 else if t.a=1 then(if c=80 then .go ⟨2,0,0⟩else .bad 240)
 else if t.a=2 then(if c=1 then .go ⟨3,0,0⟩else .bad 241)
 else if EL t.V t.M c 65536 then(if EZ t.M c then .done (D5 t.V t.M c)else .go ⟨3,D5 t.V t.M c,EM t.M c⟩)else .bad 242
def HR.val:HR->Value
|.go t=>.tuple #[.agg t.v,.bool false,.int .i64 0]
|.done n=>.tuple #[.agg (HS 4 0 0 n),.bool true,.int .i64 0]
|.bad e=>.tuple #[.agg (HS 0 0 0 0),.bool false,.int .i64 e]
def HR.ok:HR->Prop
|.go t=>t.ok
|.done n=>1<=n/\n<=65536
|.bad e=>e=240\/e=241\/e=242
def HT.step_ok{t:HT}(h:t.ok)(c0:0<=c)(c1:c<=255):(t.step c).ok:=by
 obtain⟨a,V,M⟩:=t;simp only[HT.ok]at h;simp only[HT.step];by_cases h0:a=0
 .rw[aQ h0];exact GJ
 rw[aP h0];by_cases h1:a=1
 .rw[aQ h1];exact GJ
 rw[aP h1];by_cases h2:a=2
 .rw[aQ h2];split
  .exact .inr ⟨rfl,VM.zero FU⟩
  .exact .inr (.inl rfl)
 rw[aP h2];rcases h with h|⟨_,hv⟩
 .omega
 split
 .rename_i ho;split
  .rename_i hd;exact hv.done ho hd
  .rename_i hd;exact .inr ⟨rfl,hv.next FU c0 c1 ho (by simpa using hd)⟩
 .exact .inr (.inr rfl)
def VA{t:HT}(h:t.ok)(c:Int)(c0:0<=c)(c1:c<=255)(w:FC):ak 98 #[.agg t.v,.int .u8 c] w (RB w ((t.step c).val)):=by
 obtain⟨a,V,M⟩:=t;simp only[HT.ok]at h;simp only[HT.v,HT.step];rcases h with⟨a0,a2,rfl,rfl⟩|⟨rfl,hv⟩
 .have e:a=0\/a=1\/a=2:=FP
  rcases e with rfl|rfl|rfl
  .rw[aQ rfl];by_cases hc:c=87
   .rw[aQ hc,hc];exact vU
   .rw[aP hc];exact vN hc
  .rw[aP FU,aQ rfl];by_cases hc:c=80
   .rw[aQ hc,hc];exact a0a
   .rw[aP hc];exact vM hc
  .rw[aP FU,aP FU,aQ rfl];by_cases hc:c=1
   .rw[aQ hc,hc];exact vP
   .rw[aP hc];exact vK hc
 .rw[aP FU,aP FU,aP FU];cases ho:EL V M c 65536 with
 |false=>rw[aP FU];exact vO hv.val hv.m0 hv.m4 hv.le c0 c1 ho
 |true=>
   rw[aQ rfl];cases hd:EZ M c with
  |true=>rw[aQ rfl];exact a0M hv.val hv.m0 hv.m4 hv.le c0 c1 ho hd
  |false=>rw[aP FU];exact a1s hv.val hv.m0 hv.m4 hv.le c0 c1 ho hd
inductive MT where
|mark
|mm (V M:Int)
|pp (m V M:Int)
|sum (m p s:Int) (k:Nat)
|last (s:Int) (k:Nat)
def MT.v:MT->ai
|.mark=>MS 0 0 0 0 0 0 0
|.mm V M=>MS 1 V M 0 0 0 0
|.pp m V M=>MS 2 V M m 0 0 0
|.sum m p s k=>MS 3 0 0 m p s k
|.last s k=>MS 5 0 0 0 0 s k
def MT.ok(n:Int):MT->Prop
|.mark=>True
|.mm V M=>VM V M n
|.pp m V M=>1<=m/\m<=n/\VM V M m
|.sum m p s k=>1<=m/\m<=n/\1<=p/\p<=m/\k<=3/\0<=s/\s<2^(8*k)
|.last s k=>k<=3/\0<=s/\s<2^(8*k)
inductive MR where
|go (t:MT)
|block (m p s:Int)
|tail (s:Int)
|bad
def MT.step(n:Int)(c:Int):MT->MR
|.mark=>if c=0 then .go (.last 0 0)else if c=1 then .go (.mm 0 0)else .bad
|.mm V M=>if EL V M c n then(if EZ M c then .go (.pp (D5 V M c) 0 0)else .go (.mm (D5 V M c) (EM M c)))else .bad
|.pp m V M=>if EL V M c m then(if EZ M c then .go (.sum m (D5 V M c) 0 0)else .go (.pp m (D5 V M c) (EM M c)))else .bad
|.sum m p s k=>if k=3 then .block m p (s*256+c)else .go (.sum m p (s*256+c) (k+1))
|.last s k=>if k=3 then .tail (s*256+c)else .go (.last (s*256+c) (k+1))
def MR.val:MR->Value
|.go t=>.tuple #[.agg t.v,.bool false,.int .i64 0]
|.block m p s=>.tuple #[.agg (MS 4 0 0 m p s 4),.bool true,.int .i64 0]
|.tail s=>.tuple #[.agg (MS 6 0 0 0 0 s 4),.bool true,.int .i64 0]
|.bad=>.tuple #[.agg (MS 0 0 0 0 0 0 0),.bool false,.int .i64 242]
def MR.ok(n:Int):MR->Prop
|.go t=>t.ok n
|.block m p s=>1<=m/\m<=n/\1<=p/\p<=m/\0<=s/\s<4294967296
|.tail s=>0<=s/\s<4294967296
|.bad=>True
def iH(h0:0<=s)(h1:s<2^(8*k))(c0:0<=c)(c1:c<=255):0<=s*256+c/\s*256+c<2^(8*(k+1)):=by
 rw[show 8*(k+1)=8*k+8 by omega,Int.pow_add];have e:(2:Int)^8=256:=FU
 rw[e];omega
def QL(hk:k<=3)(h1:s<2^(8*k)):s<16777216:=by
 have e:k=0\/k=1\/k=2\/k=3:=FP
 rcases e with rfl|rfl|rfl|rfl<;>simp at h1<;>omega
def MT.step_ok(n1:1<=n)(n2:n<=65536){t:MT}(h:t.ok n)(c0:0<=c)(c1:c<=255):(t.step n c).ok n:=by
 cases t with
|mark=>
  simp only[MT.step];split
  .exact⟨FP,FP,FU⟩
  .split
   .exact VM.zero FP
   .trivial
|mm V M=>
  simp only[MT.step];simp only[MT.ok]at h;split
  .rename_i ho;split
   .rename_i hd;have:=h.done ho hd;exact⟨this.1,this.2,VM.zero FP⟩
   .rename_i hd;exact h.next n2 c0 c1 ho (by simpa using hd)
  .trivial
|pp m V M=>
  simp only[MT.step];simp only[MT.ok]at h;split
  .rename_i ho;split
   .rename_i hd;have:=h.2.2.done ho hd;exact⟨h.1,h.2.1,this.1,this.2,FP,FP,FU⟩
   .rename_i hd;exact⟨h.1,h.2.1,h.2.2.next FP c0 c1 ho (by simpa using hd)⟩
  .trivial
|sum m p s k=>
  simp only[MT.step];simp only[MT.ok]at h;have hp:=iH (k:=k) h.2.2.2.2.2.1 h.2.2.2.2.2.2 c0 c1;split
  .rename_i hk;subst hk;exact⟨h.1,h.2.1,h.2.2.1,h.2.2.2.1,hp.1,by simpa using hp.2⟩
  .exact⟨h.1,h.2.1,h.2.2.1,h.2.2.2.1,FP,hp.1,hp.2⟩
|last s k=>
  simp only[MT.step];simp only[MT.ok]at h;have hp:=iH (k:=k) h.2.1 h.2.2 c0 c1;split
  .rename_i hk;subst hk;exact⟨hp.1,by simpa using hp.2⟩
  .exact⟨FP,hp.1,hp.2⟩
def Vo(n1:1<=n)(n2:n<=65536){t:MT}(h:t.ok n)(c:Int)(c0:0<=c)(c1:c<=255)(w:FC):ak 101 #[.int .i64 n,.agg t.v,.int .u8 c] w (RB w ((t.step n c).val)):=by
 cases t with
|mark=>
  simp only[MT.step,MT.v];by_cases h0:c=0
  .rw[aQ h0,h0];exact zL n1 n2
  .rw[aP h0];by_cases h1:c=1
   .rw[aQ h1,h1];exact zK n1 n2
   .rw[aP h1];exact a08 n1 n2 FP
|mm V M=>
  simp only[MT.step,MT.v];simp only[MT.ok]at h;cases ho:EL V M c n with
 |false=>
   rw[aP FU];cases hd:EZ M c with
  |true=>exact WB n1 n2 h.val h.m0 h.m4 c0 c1 h.le hd ho
  |false=>exact XZ n1 n2 h.val h.m0 h.m4 c0 c1 h.le hd ho
 |true=>
   rw[aQ rfl];cases hd:EZ M c with
  |true=>rw[aQ rfl];exact WA n1 n2 h.val h.m0 h.m4 c0 c1 h.le hd ho
  |false=>rw[aP FU];exact XY n1 n2 h.val h.m0 h.m4 c0 c1 h.le hd ho
|pp m V M=>
  simp only[MT.step,MT.v];simp only[MT.ok]at h;obtain⟨m0,m1,h⟩:=h;cases ho:EL V M c m with
 |false=>
   rw[aP FU];cases hd:EZ M c with
  |true=>exact UC n1 n2 m0 m1 h.val h.m0 h.m4 c0 c1 h.le hd ho
  |false=>exact WH n1 n2 m0 m1 h.val h.m0 h.m4 c0 c1 h.le hd ho
 |true=>
   rw[aQ rfl];cases hd:EZ M c with
  |true=>rw[aQ rfl];exact a0X n1 n2 m0 m1 h.val h.m0 h.m4 c0 c1 h.le hd ho
  |false=>rw[aP FU];exact a1z n1 n2 m0 m1 h.val h.m0 h.m4 c0 c1 h.le hd ho
|sum m p s k=>
  simp only[MT.step,MT.v];simp only[MT.ok]at h;obtain⟨m0,m1,p0,p1,hk,s0,s1⟩:=h;by_cases h3:k=3
  .subst h3;rw[aQ rfl];exact rF n1 n2 m0 m1 p0 p1 s0 s1 (QL hk s1) c0 c1
  .rw[aP h3];exact zI n1 n2 m0 m1 p0 p1 k FP FP s0 Lj (QL hk s1) c0 c1 FP
|last s k=>
  simp only[MT.step,MT.v];simp only[MT.ok]at h;obtain⟨hk,s0,s1⟩:=h;by_cases h3:k=3
  .subst h3;rw[aQ rfl];exact lg n1 n2 s0 s1 (QL hk s1) c0 c1
  .rw[aP h3];exact rH n1 n2 k FP FP s0 Lj (QL hk s1) c0 c1 FP
end
end Go.Proofs.YtkpbhdhkdonghaaGreat
