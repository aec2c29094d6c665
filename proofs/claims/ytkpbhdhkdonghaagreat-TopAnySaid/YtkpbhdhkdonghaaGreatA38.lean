/-
  Part 38 of the proof.
-/
import Derived.Test.YtkpbhdhkdonghaaGreatA09
import Derived.Test.YtkpbhdhkdonghaaGreatA35
set_option linter.all false
set_option maxHeartbeats 1000000
set_option maxRecDepth 100000
namespace Go.Proofs.YtkpbhdhkdonghaaGreat
open Go Tryz Go.RowKit Go.Shelf
attribute [local go_sem] Oper.semAt_some
def vg (Bn o:Nat) (W:World):Nat:=match W.cell? ⟨Bn,o,none⟩ with|some (.int _ z)=>z.toNat|_=>0
theorem YU {Bn o:Nat} {W:World} {m:Nat} (h:W.cell? ⟨Bn,o,none⟩=some (.int .i64 m)):vg Bn o W=m:=by
 rw [vg,h];simp
theorem A0u (F:Fence) (n:Nat) (h73:F.fn 281) (hro:F.round=none) (hn:1<=n) (l Bn o m:Nat) (hm:m < 2 ^ 31) (J:I_->World->Prop) (W:World)
  (hc:W.cell? ⟨Bn,o,none⟩=some (.int .i64 m)) (hf:W.frozen? ⟨Bn,o,none⟩=false) (hJ:∀ pre A v,J pre A->J pre (A.setCell ⟨Bn,o,none⟩ v))
  (hY:∀ pre x suf W1,dg m=pre++x::suf->J pre W1->YieldAt F (n - 1) prog l #[.int .i64 x] W1 fun e W'=>e=.returned (.bool true)/\J (pre++[x]) W'/\W'.heap[Bn]?=W1.heap[Bn]?) (h0:J [] W) :
  CallsIn F n prog 281 #[.func (.yield l) #[] #[],.pointer (some ⟨Bn,o,none⟩)] W fun e W'=>(∃ v,e=.returned v)/\J (dg m) W':=by
 refine callsIn_of_wp func281 rfl h73 ?_ hro;simp only [ntmps281,List.size_toArray,List.length_cons,List.length_nil,Nat.reduceAdd,Nat.reduceSub,Array.replicate_succ,Array.replicate_zero,List.push_toArray,List.append_toArray,List.nil_append,List.cons_append]
 gi_wp2
 gi_loopw [3] (fun _ wr=>∃ (pre:I_) (k:Nat),k < 2 ^ 31/\dg m=pre++dg k/\wr.cell? ⟨Bn,o,none⟩=some (.int .i64 k)/\wr.frozen? ⟨Bn,o,none⟩=false/\J pre wr) (fun _ wr=>vg Bn o wr)
 case atStart=>exact ⟨[],m,hm,rfl,hc,hf,h0⟩
 case round =>
  obtain ⟨pre,k,hk,hx,hck,hfk,hJs⟩:=hrel;clear hc hf h0 hm;have hlft:=YU hck;by_cases hk0:k=0
  ·subst hk0
   gi_wp2
   go_end0
   exact ⟨⟨_,rfl⟩,by rw [hx,Og,List.append_nil];exact hJs⟩
  ·have hst:=Xt k (by omega);have e1:(k:Int) - 1=((k - 1:Nat):Int):=by omega
   have e2:bits .and .i64 ((k:Int) - 1) 1=((k - 1:Nat):Int) % 2:=by rw [e1,xP (k - 1) (by omega)];rfl
   clear e1;obtain ⟨fn,tmps,assign,body,hy,hR⟩:=hY pre (((k - 1:Nat):Int) % 2) (dg ((k - 1) / 2)) wr (by rw [hx,hst]) hJs
   gi_wp2
   refine hR.mono ?_;rintro e W3 ⟨rfl,hJ3,hk3⟩;have hc3:W3.cell? ⟨Bn,o,none⟩=some (.int .i64 k):=(World.cell?_of_block (w:=wr) (a:=⟨Bn,o,none⟩) hk3).trans hck;have hf3:W3.frozen? ⟨Bn,o,none⟩=false:=(World.frozen?_of_block (w:=wr) (a:=⟨Bn,o,none⟩) hk3).trans hfk;have e3:((k:Int) - 1) / 2=(((k - 1) / 2:Nat):Int):=by omega
   have hc4:(W3.setCell ⟨Bn,o,none⟩ (.int .i64 (((k:Int) - 1) / 2))).cell? ⟨Bn,o,none⟩=some (.int .i64 (((k - 1) / 2:Nat):Int)):=by
    rw [e3];exact World.cell?_setCell_same' _ _ _ (by rw [hc3];rfl)
   have hf4:(W3.setCell ⟨Bn,o,none⟩ (.int .i64 (((k:Int) - 1) / 2))).frozen? ⟨Bn,o,none⟩=false:=by rw [World.frozen?_setCell];exact hf3
   have hl4:=YU hc4;clear e3;have HC4:=h_ hc4;have HF4:=h_ hf4;have HL4:=h_ hl4;clear hc4 hf4 hl4
   gi_wp2
   go_roundw
   case rel=>exact ⟨pre++[((k - 1:Nat):Int) % 2],(k - 1) / 2,by omega,by rw [hx,hst];simp,HC4.out,HF4.out,hJ _ _ _ hJ3⟩
   case measure=>rw [HL4.out,hlft];omega
theorem jE:∀ (f n:Nat),n < 2 ^ f->jF f n=(dg n).map fun z=>Value.int .i64 z
|0,n,h=>by
  obtain rfl:n=0:=by simpa using h
  rw [Og];rfl
|f+1,n,h=>by
  by_cases h0:n=0
  ·subst h0;rw [Og];rfl
  ·have hb:Nat.beq n 0=false:=by
    cases hb:Nat.beq n 0 with
   |false=>rfl
   |true=>exact absurd (n_q hb) h0
   rw [Xt n (by omega),List.map_cons,<- jE f ((n - 1) / 2) (by rw [Nat.pow_succ] at h;omega)];show cond (Nat.beq n 0) _ _=_;rw [hb];rfl
theorem it281 (n:Nat) (hn:n<=2147483647):Yields prog 281 [.int .i64 n] (jF 40 n):=by
 intro l d J W bs hb1 hb2 hb3 hJ hY h0
 obtain ⟨b,rfl⟩:∃ b,bs=[b]:=by
  cases bs with
 |nil=>simp at hb1
 |cons b r=>cases r with|nil=>exact ⟨b,rfl⟩|cons _ _=>simp at hb1
 obtain ⟨hc,hf⟩:=hb3 0 b (.int .i64 n) rfl rfl;rw [jE 40 n (by omega)] at hY ⊢;refine A0u Fence.wide (d+1) trivial rfl (by omega) l b.1 b.2 n (by omega) (fun pre A=>J (pre.map fun z=>Value.int .i64 z) A) W hc hf (fun pre A v hA=>hJ _ A b v (by simp) hA) (fun pre x suf W1 hx hpre=>?_) h0;refine (hY (pre.map fun z=>Value.int .i64 z) (.int .i64 x) (suf.map fun z=>Value.int .i64 z) W1 (by rw [hx];simp) hpre).mono ?_;rintro ed W' ⟨r1,r2,r3⟩;exact ⟨r1,by rw [List.map_append];exact r2,r3 b (by simp)⟩
attribute [local go_sem] Oper.semAt_some
theorem A0N (q:Nat):bits .and .u8 ((q:Int) % 256) 1=((q % 2:Nat):Int):=by
 have h1:(BitVec.ofInt 8 ((q:Int) % 256)).toNat=q % 256:=by
  rw [show (q:Int) % 256=((q % 256:Nat):Int) by omega,BitVec.ofInt_natCast,BitVec.toNat_ofNat];exact Nat.mod_eq_of_lt (by omega)
 have h2:(BitVec.ofInt 8 (1:Int)).toNat=1:=rfl;show IntKind.u8.wrap ((BitVec.ofInt 8 ((q:Int) % 256) &&& BitVec.ofInt 8 (1:Int)).toNat:Int)=_;rw [BitVec.toNat_and,h1,h2,Nat.and_one_is_mod,show q % 256 % 2=q % 2 by omega];have:q % 2 < 2:=Nat.mod_lt _ (by omega);rcases (show q % 2=0\/q % 2=1 by omega) with h|h<;>rw [h]<;>rfl
theorem U4 (v j:Nat):Jr v (j+1)=.int .u8 ((v:Int) / 2 ^ j % 2)::Jr v j:=by
 have h:Jr v (j+1)=.int .u8 ((v / 2 ^ j % 2:Nat):Int)::Jr v j:=rfl;rw [h]
 congr 2
theorem A0t (F:Fence) (d:Nat) (h73:F.fn 263) (hro:F.round=none) (hd:1<=d) (l B1 o1 B2 o2 n v:Nat) (hn:n<=32) (hv:v < 2 ^ 32) (J:L_->World->Prop) (W:World)
  (hc:W.cell? ⟨B1,o1,none⟩=some (.int .i64 n)) (hf:W.frozen? ⟨B1,o1,none⟩=false) (hc2:W.cell? ⟨B2,o2,none⟩=some (.int .u32 v)) (hf2:W.frozen? ⟨B2,o2,none⟩=false)
  (hY:∀ pre x suf W1,Jr v n=pre++x::suf->J pre W1->YieldAt F (d - 1) prog l #[x] W1 fun e W'=>e=.returned (.bool true)/\J (pre++[x]) W'/\W'.heap[B1]?=W1.heap[B1]?/\W'.heap[B2]?=W1.heap[B2]?) (h0:J [] W) :
  CallsIn F d prog 263 #[.func (.yield l) #[] #[],.pointer (some ⟨B1,o1,none⟩),.pointer (some ⟨B2,o2,none⟩)] W fun e W'=>(∃ v,e=.returned v)/\J (Jr v n) W':=by
 refine callsIn_of_wp func263 rfl h73 ?_ hro;simp only [ntmps263,List.size_toArray,List.length_cons,List.length_nil,Nat.reduceAdd,Nat.reduceSub,Array.replicate_succ,Array.replicate_zero,List.push_toArray,List.append_toArray,List.nil_append,List.cons_append]
 gi_wp2
 gi_loopw [4] (fun u wr=>∃ (pre:L_) (k:Nat),k<=n/\u=.int .i64 ((k:Int) - 1)/\Jr v n=pre++Jr v k/\wr.cell? ⟨B2,o2,none⟩=some (.int .u32 v)/\wr.frozen? ⟨B2,o2,none⟩=false/\J pre wr) (fun u _=>(intOf u+1).toNat)
 case atStart=>exact ⟨[],n,Nat.le_refl _,rfl,rfl,hc2,hf2,h0⟩
 case round =>
  obtain ⟨pre,k,hk,rfl,hx,hck,hfk,hJs⟩:=hrel;clear hc hf hc2 hf2 h0;by_cases hk0:k=0
  ·subst hk0
   gi_wp2
   go_end0
   exact ⟨⟨_,rfl⟩,by rw [hx,show Jr v 0=[] from rfl,List.append_nil];exact hJs⟩
  ·obtain ⟨j,rfl⟩:∃ j,k=j+1:=⟨k - 1,by omega⟩;have e1:((j+1:Nat):Int) - 1=(j:Int):=by omega
   have e2:bits .and .u8 ((v:Int) / 2 ^ j % 256) 1=(v:Int) / 2 ^ j % 2:=by
    have h1:=A0N (v / 2 ^ j);push_cast at h1;exact h1
   rw [e1];obtain ⟨fn,tmps,assign,body,hy,hR⟩:=hY pre (.int .u8 ((v:Int) / 2 ^ j % 2)) (Jr v j) wr (by rw [hx,U4]) hJs;clear e1
   gi_wp2
   refine hR.mono ?_;rintro e W3 ⟨rfl,hJ3,hk3,hk4⟩;have hc3:W3.cell? ⟨B2,o2,none⟩=some (.int .u32 v):=(World.cell?_of_block (w:=wr) (a:=⟨B2,o2,none⟩) hk4).trans hck;have hf3:W3.frozen? ⟨B2,o2,none⟩=false:=(World.frozen?_of_block (w:=wr) (a:=⟨B2,o2,none⟩) hk4).trans hfk
   gi_wp2
   go_roundw
   case rel=>exact ⟨pre++[.int .u8 ((v:Int) / 2 ^ j % 2)],j,by omega,rfl,by rw [hx,U4];simp,hc3,hf3,hJ3⟩
   case measure=>simp [intOf]
theorem it263 (n v:Nat) (hn:n<=32) (hv:v < 2 ^ 32):Yields prog 263 [.int .i64 n,.int .u32 v] (Jr v n):=by
 intro l d J W bs hb1 hb2 hb3 hJ hY h0
 obtain ⟨b,b2,rfl⟩:∃ b b2,bs=[b,b2]:=by
  cases bs with
 |nil=>simp at hb1
 |cons b r=>cases r with|nil=>simp at hb1|cons b2 r=>cases r with|nil=>exact ⟨b,b2,rfl⟩|cons _ _=>simp at hb1
 obtain ⟨hc,hf⟩:=hb3 0 b (.int .i64 n) rfl rfl;obtain ⟨hc2,hf2⟩:=hb3 1 b2 (.int .u32 v) rfl rfl;exact A0t Fence.wide (d+1) trivial rfl (by omega) l b.1 b.2 b2.1 b2.2 n v hn hv J W hc hf hc2 hf2 (fun pre x suf W1 hx hpre=>(hY pre x suf W1 hx hpre).mono fun ed W' h=>⟨h.1,h.2.1,h.2.2 b (by simp),h.2.2 b2 (by simp)⟩) h0
theorem I8 (x:Int) (k:Nat):FZ x (k+1)=.int .i64 1::.int .i64 x::FZ x k:=rfl
def A08 (Bn o n:Nat) (W:World):Nat:=match W.cell? ⟨Bn,o,none⟩ with|some (.int _ z)=>(z - n).natAbs|_=>0
theorem QN {Bn o n:Nat} {W:World} {m:Int} (h:W.cell? ⟨Bn,o,none⟩=some (.int .i64 m)):A08 Bn o n W=(m - n).natAbs:=by
 rw [A08,h]
theorem A2A (F:Fence) (d:Nat) (h73:F.fn 262) (hro:F.round=none) (hd:1<=d) (l B1 o1 B2 o2 n v:Nat) (hne:B1 ≠ B2) (hn:n<=1000) (hv:v<=1000) (hxq:n < v) (J:L_->World->Prop) (W:World)
  (hc:W.cell? ⟨B1,o1,none⟩=some (.int .i64 n)) (hf:W.frozen? ⟨B1,o1,none⟩=false) (hc2:W.cell? ⟨B2,o2,none⟩=some (.int .i64 v)) (hf2:W.frozen? ⟨B2,o2,none⟩=false)
  (hJ:∀ pre A v,J pre A->J pre (A.setCell ⟨B2,o2,none⟩ v))
  (hY:∀ pre y suf W1,FZ 1 (v - n)=pre++y::suf->J pre W1->YieldAt F (d - 1) prog l #[y] W1 fun e W'=>e=.returned (.bool true)/\J (pre++[y]) W'/\W'.heap[B1]?=W1.heap[B1]?/\W'.heap[B2]?=W1.heap[B2]?) (h0:J [] W) :
  CallsIn F d prog 262 #[.func (.yield l) #[] #[],.pointer (some ⟨B1,o1,none⟩),.pointer (some ⟨B2,o2,none⟩)] W fun e W'=>(∃ v,e=.returned v)/\J (FZ 1 (v - n)) W':=by
 refine callsIn_of_wp func262 rfl h73 ?_ hro;simp only [ntmps262,List.size_toArray,List.length_cons,List.length_nil,Nat.reduceAdd,Nat.reduceSub,Array.replicate_succ,Array.replicate_zero,List.push_toArray,List.append_toArray,List.nil_append,List.cons_append];have hlt:(n:Int) < (v:Int):=by omega
 gi_wp2
 gi_loopw [8] (fun _ wr=>∃ (pre:L_) (r:Nat),r<=1000/\FZ 1 (v - n)=pre++FZ 1 r/\wr.cell? ⟨B1,o1,none⟩=some (.int .i64 n)/\wr.cell? ⟨B2,o2,none⟩=some (.int .i64 ((n:Int)+(r:Int)))/\wr.frozen? ⟨B2,o2,none⟩=false/\J pre wr) (fun _ wr=>A08 B2 o2 n wr)
 case atStart=>exact ⟨[],v - n,by omega,rfl,hc,by rw [hc2];congr 2;omega,hf2,h0⟩
 case round =>
  obtain ⟨pre,r,hr,hx,hcb,hck,hfk,hJs⟩:=hrel;clear hc hf hc2 hf2 h0 hlt;have hoff:=QN (n:=n) hck;by_cases hk0:r=0
  ·subst hk0;have e0:(n:Int)+(0:Int)=(n:Int):=by omega
   exact xcn
  ·obtain ⟨j,rfl⟩:∃ j,r=j+1:=⟨r - 1,by omega⟩;obtain ⟨fn,tmps,assign,body,hy,hR⟩:=hY pre (.int .i64 1) (.int .i64 1::FZ 1 j) wr (by rw [hx,I8]) hJs;have hne2:¬ ((n:Int)+((j+1:Nat):Int)=(n:Int)):=by omega
   gi_wp2
   refine hR.mono ?_;rintro e W3 ⟨rfl,hJ3,hk3,hk4⟩;have hcb3:W3.cell? ⟨B1,o1,none⟩=some (.int .i64 n):=(World.cell?_of_block (w:=wr) (a:=⟨B1,o1,none⟩) hk3).trans hcb;have hck3:W3.cell? ⟨B2,o2,none⟩=some (.int .i64 ((n:Int)+((j+1:Nat):Int))):=(World.cell?_of_block (w:=wr) (a:=⟨B2,o2,none⟩) hk4).trans hck;have hfk3:W3.frozen? ⟨B2,o2,none⟩=false:=(World.frozen?_of_block (w:=wr) (a:=⟨B2,o2,none⟩) hk4).trans hfk;obtain ⟨fn2,tmps2,assign2,body2,hy2,hR2⟩:=hY (pre++[.int .i64 1]) (.int .i64 1) (FZ 1 j) W3 (by rw [hx,I8];simp) hJ3
   gi_wp2
   refine hR2.mono ?_;rintro e W4 ⟨rfl,hJ4,hk5,hk6⟩;have hcb4:W4.cell? ⟨B1,o1,none⟩=some (.int .i64 n):=(World.cell?_of_block (w:=W3) (a:=⟨B1,o1,none⟩) hk5).trans hcb3;have hck4:W4.cell? ⟨B2,o2,none⟩=some (.int .i64 ((n:Int)+((j+1:Nat):Int))):=(World.cell?_of_block (w:=W3) (a:=⟨B2,o2,none⟩) hk6).trans hck3;have hfk4:W4.frozen? ⟨B2,o2,none⟩=false:=(World.frozen?_of_block (w:=W3) (a:=⟨B2,o2,none⟩) hk6).trans hfk3
   have hw5:∀ z:Int,z=(n:Int)+(j:Int)->(W4.setCell ⟨B2,o2,none⟩ (.int .i64 z)).cell? ⟨B1,o1,none⟩=some (.int .i64 n)/\(W4.setCell ⟨B2,o2,none⟩ (.int .i64 z)).cell? ⟨B2,o2,none⟩=some (.int .i64 ((n:Int)+(j:Int)))/\(W4.setCell ⟨B2,o2,none⟩ (.int .i64 z)).frozen? ⟨B2,o2,none⟩=false:=fun z hz=>by
    exact xck
   have HW5:=h_ hw5;clear hw5
   gi_wp2
   go_roundw
   case rel =>
    obtain ⟨q1,q2,q3⟩:=HW5.out ((n:Int)+((j:Int)+1)+-1) (by omega);exact ⟨pre++[.int .i64 1]++[.int .i64 1],j,by omega,by rw [hx,I8];simp,q1,q2,q3,hJ _ _ _ hJ4⟩
   case measure =>
    obtain ⟨q1,q2,q3⟩:=HW5.out ((n:Int)+((j:Int)+1)+-1) (by omega);rw [QN q2,hoff];omega
theorem A2B (F:Fence) (d:Nat) (h73:F.fn 262) (hro:F.round=none) (hd:1<=d) (l B1 o1 B2 o2 n v:Nat) (hne:B1 ≠ B2) (hn:n<=1000) (hv:v<=1000) (hxq:v<=n) (J:L_->World->Prop) (W:World)
  (hc:W.cell? ⟨B1,o1,none⟩=some (.int .i64 n)) (hf:W.frozen? ⟨B1,o1,none⟩=false) (hc2:W.cell? ⟨B2,o2,none⟩=some (.int .i64 v)) (hf2:W.frozen? ⟨B2,o2,none⟩=false)
  (hJ:∀ pre A v,J pre A->J pre (A.setCell ⟨B2,o2,none⟩ v))
  (hY:∀ pre y suf W1,FZ 0 (n - v)=pre++y::suf->J pre W1->YieldAt F (d - 1) prog l #[y] W1 fun e W'=>e=.returned (.bool true)/\J (pre++[y]) W'/\W'.heap[B1]?=W1.heap[B1]?/\W'.heap[B2]?=W1.heap[B2]?) (h0:J [] W) :
  CallsIn F d prog 262 #[.func (.yield l) #[] #[],.pointer (some ⟨B1,o1,none⟩),.pointer (some ⟨B2,o2,none⟩)] W fun e W'=>(∃ v,e=.returned v)/\J (FZ 0 (n - v)) W':=by
 refine callsIn_of_wp func262 rfl h73 ?_ hro;simp only [ntmps262,List.size_toArray,List.length_cons,List.length_nil,Nat.reduceAdd,Nat.reduceSub,Array.replicate_succ,Array.replicate_zero,List.push_toArray,List.append_toArray,List.nil_append,List.cons_append];have hlt:¬ (n:Int) < (v:Int):=by omega
 gi_wp2
 gi_loopw [8] (fun _ wr=>∃ (pre:L_) (r:Nat),r<=1000/\FZ 0 (n - v)=pre++FZ 0 r/\wr.cell? ⟨B1,o1,none⟩=some (.int .i64 n)/\wr.cell? ⟨B2,o2,none⟩=some (.int .i64 ((n:Int) - (r:Int)))/\wr.frozen? ⟨B2,o2,none⟩=false/\J pre wr) (fun _ wr=>A08 B2 o2 n wr)
 case atStart=>exact ⟨[],n - v,by omega,rfl,hc,by rw [hc2];congr 2;omega,hf2,h0⟩
 case round =>
  obtain ⟨pre,r,hr,hx,hcb,hck,hfk,hJs⟩:=hrel;clear hc hf hc2 hf2 h0 hlt;have hoff:=QN (n:=n) hck;by_cases hk0:r=0
  ·subst hk0;have e0:(n:Int) - (0:Int)=(n:Int):=by omega
   exact xcn
  ·obtain ⟨j,rfl⟩:∃ j,r=j+1:=⟨r - 1,by omega⟩;obtain ⟨fn,tmps,assign,body,hy,hR⟩:=hY pre (.int .i64 1) (.int .i64 0::FZ 0 j) wr (by rw [hx,I8]) hJs;have hne2:¬ ((n:Int) - ((j+1:Nat):Int)=(n:Int)):=by omega
   gi_wp2
   refine hR.mono ?_;rintro e W3 ⟨rfl,hJ3,hk3,hk4⟩;have hcb3:W3.cell? ⟨B1,o1,none⟩=some (.int .i64 n):=(World.cell?_of_block (w:=wr) (a:=⟨B1,o1,none⟩) hk3).trans hcb;have hck3:W3.cell? ⟨B2,o2,none⟩=some (.int .i64 ((n:Int) - ((j+1:Nat):Int))):=(World.cell?_of_block (w:=wr) (a:=⟨B2,o2,none⟩) hk4).trans hck;have hfk3:W3.frozen? ⟨B2,o2,none⟩=false:=(World.frozen?_of_block (w:=wr) (a:=⟨B2,o2,none⟩) hk4).trans hfk;obtain ⟨fn2,tmps2,assign2,body2,hy2,hR2⟩:=hY (pre++[.int .i64 1]) (.int .i64 0) (FZ 0 j) W3 (by rw [hx,I8];simp) hJ3
   gi_wp2
   refine hR2.mono ?_;rintro e W4 ⟨rfl,hJ4,hk5,hk6⟩;have hcb4:W4.cell? ⟨B1,o1,none⟩=some (.int .i64 n):=(World.cell?_of_block (w:=W3) (a:=⟨B1,o1,none⟩) hk5).trans hcb3;have hck4:W4.cell? ⟨B2,o2,none⟩=some (.int .i64 ((n:Int) - ((j+1:Nat):Int))):=(World.cell?_of_block (w:=W3) (a:=⟨B2,o2,none⟩) hk6).trans hck3;have hfk4:W4.frozen? ⟨B2,o2,none⟩=false:=(World.frozen?_of_block (w:=W3) (a:=⟨B2,o2,none⟩) hk6).trans hfk3
   have hw5:∀ z:Int,z=(n:Int) - (j:Int)->(W4.setCell ⟨B2,o2,none⟩ (.int .i64 z)).cell? ⟨B1,o1,none⟩=some (.int .i64 n)/\(W4.setCell ⟨B2,o2,none⟩ (.int .i64 z)).cell? ⟨B2,o2,none⟩=some (.int .i64 ((n:Int) - (j:Int)))/\(W4.setCell ⟨B2,o2,none⟩ (.int .i64 z)).frozen? ⟨B2,o2,none⟩=false:=fun z hz=>by
    exact xck
   have HW5:=h_ hw5;clear hw5
   gi_wp2
   go_roundw
   case rel =>
    obtain ⟨q1,q2,q3⟩:=HW5.out ((n:Int) - ((j:Int)+1)+1) (by omega);exact ⟨pre++[.int .i64 1]++[.int .i64 0],j,by omega,by rw [hx,I8];simp,q1,q2,q3,hJ _ _ _ hJ4⟩
   case measure =>
    obtain ⟨q1,q2,q3⟩:=HW5.out ((n:Int) - ((j:Int)+1)+1) (by omega);rw [QN q2,hoff];omega
theorem it262 (n v:Nat) (hn:n<=1000) (hv:v<=1000):Yields prog 262 [.int .i64 n,.int .i64 v] (cond (Nat.blt n v) (FZ 1 (v - n)) (FZ 0 (n - v))):=by
 intro l d J W bs hb1 hb2 hb3 hJ hY h0
 obtain ⟨b,b2,rfl⟩:∃ b b2,bs=[b,b2]:=by
  cases bs with
 |nil=>simp at hb1
 |cons b r=>cases r with|nil=>simp at hb1|cons b2 r=>cases r with|nil=>exact ⟨b,b2,rfl⟩|cons _ _=>simp at hb1
 obtain ⟨hc,hf⟩:=hb3 0 b (.int .i64 n) rfl rfl;obtain ⟨hc2,hf2⟩:=hb3 1 b2 (.int .i64 v) rfl rfl;have hne:b.1 ≠ b2.1:=by simpa using hb2
 cases hlt:Nat.blt n v with
|true =>
  have h1:n < v:=n_l hlt;rw [hlt] at hY;exact A2A Fence.wide (d+1) trivial rfl (by omega) l b.1 b.2 b2.1 b2.2 n v hne hn hv h1 J W hc hf hc2 hf2 (fun pre A u h=>hJ pre A b2 u (by simp) h) (fun pre x suf W1 hx hpre=>(hY pre x suf W1 hx hpre).mono fun ed W' h=>⟨h.1,h.2.1,h.2.2 b (by simp),h.2.2 b2 (by simp)⟩) h0
|false =>
  have h1:v<=n:=by
   rcases Nat.lt_or_ge n v with h|h
   ·have:Nat.blt n v=true:=Nat.ble_eq_true_of_le h;rw [this] at hlt;cases hlt
   ·exact h
  rw [hlt] at hY;exact A2B Fence.wide (d+1) trivial rfl (by omega) l b.1 b.2 b2.1 b2.2 n v hne hn hv h1 J W hc hf hc2 hf2 (fun pre A u h=>hJ pre A b2 u (by simp) h) (fun pre x suf W1 hx hpre=>(hY pre x suf W1 hx hpre).mono fun ed W' h=>⟨h.1,h.2.1,h.2.2 b (by simp),h.2.2 b2 (by simp)⟩) h0
theorem it_ok:A0Z prog:=by
 intro g cs xs hx;unfold itT at hx;split at hx
 ·rename_i n;cases hb:(Nat.beq g 281 && Nat.ble n 2147483647) with
 |false=>rw [hb] at hx;cases hx
 |true =>
   rw [hb] at hx;cases hx;rw [b_t] at hb;obtain rfl:=n_q hb.1;exact it281 n (n_l hb.2)
 ·rename_i n k v;split at hx
  ·cases hb:(Nat.beq g 263 && Nat.ble n 32 && Nat.ble v 4294967295) with
  |false=>rw [hb] at hx;cases hx
  |true =>
    rw [hb] at hx;cases hx;rw [b_t,b_t] at hb;obtain rfl:=n_q hb.1.1;have:=n_l hb.2;exact it263 n v (n_l hb.1.2) (by omega)
  ·cases hb:(Nat.beq g 262 && (Nat.ble n 1000 && Nat.ble v 1000)) with
  |false=>rw [hb] at hx;cases hx
  |true =>
    rw [hb] at hx;cases hx;rw [b_t,b_t] at hb;obtain rfl:=n_q hb.1;exact it262 n v (n_l hb.2.1) (n_l hb.2.2)
  ·cases hx
 ·cases hx
end Go.Proofs.YtkpbhdhkdonghaaGreat
