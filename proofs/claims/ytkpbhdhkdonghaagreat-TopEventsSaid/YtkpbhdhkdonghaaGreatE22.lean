/-
  Part 22 of the proof.
-/
import Derived.WalkMore
import Derived.Test.YtkpbhdhkdonghaaGreatE08
import Derived.Test.YtkpbhdhkdonghaaGreatE10
import Derived.Test.YtkpbhdhkdonghaaGreatE11
import Derived.Test.YtkpbhdhkdonghaaGreatE13
import Derived.Test.YtkpbhdhkdonghaaGreatE16
import Derived.Test.YtkpbhdhkdonghaaGreatE19
import Derived.Test.YtkpbhdhkdonghaaGreatE20
import Derived.Test.YtkpbhdhkdonghaaGreatE21
set_option linter.all false
set_option linter.all false
set_option maxRecDepth 10000
namespace Go.Proofs.YtkpbhdhkdonghaaGreat
open Go Go.RowKit
inductive Evt where
|head (n:Int)
|block (m p s:Int)
|bytes (t:List Int)
|U5 (m p s:Int)
|tail (s:Int)
|fin
|bad (e:Int)
inductive PS where
|head (t:HT)
|mark (n:Int) (t:MT)
|table (n m p s:Int) (t:TT)
|syms (n m p s:Int) (L:List Int) (c:Int) (k:Nat) (b:DS)
|pad (n m p s:Int)
|behind
|over
|bad (e:Int)
structure Cf where
 s:PS
 R:List Int
 j:Nat
def zpad (R:List Int) (j:Nat):Bool:=(List.range (8 * ((j+7) / 8) - j)).all fun i=>AP R (j+i)=0
def Oj (n m p s:Int) (t:TT) (R:List Int) (j:Nat):Option Evt × Cf :=
 if (t.next (AP R j)).2 then (if (t.next (AP R j)).1.s=258 then (none,⟨.syms n m p s (t.next (AP R j)).1.l 0 0 (dNew m),R,j+1⟩) else (none,⟨.table n m p s (t.next (AP R j)).1,R,j+1⟩)) else (some (.bad 100),⟨.bad 100,R,j+1⟩)
def MQ (n m p s:Int) (L:List Int) (c:Int) (k:Nat) (d:DS × List Int × Bool × Int) (R:List Int) (j:Nat):Option Evt × Cf :=
 if d.2.2.2=0 then (if 0 < d.2.1.length then some (.bytes d.2.1) else none,⟨if d.2.2.1 then .pad n m p s else .syms n m p s L c k d.1,R,j⟩) else (some (.bad d.2.2.2),⟨.bad d.2.2.2,R,j⟩)
def eY (n m p s:Int) (L:List Int) (c:Int) (k:Nat) (b:DS) (R:List Int) (j:Nat):Option Evt × Cf :=
 if (pfs L c k (AP R j)).2.2.2=true then MQ n m p s L (pfs L c k (AP R j)).1 (pfs L c k (AP R j)).2.1 (FY b (pfs L c k (AP R j)).2.2.1) R (j+1) else (none,⟨.syms n m p s L (pfs L c k (AP R j)).1 (pfs L c k (AP R j)).2.1 b,R,j+1⟩)
def Qs (r:HR) (R:List Int) (j:Nat):Option Evt × Cf:=match r with
|.go t=>(none,⟨.head t,R,j⟩)
|.done n=>(some (.head n),⟨.mark n .mark,R,j⟩)
|.bad e=>(some (.bad e),⟨.bad e,R,j⟩)
def MX (n:Int) (r:MR) (R:List Int) (j:Nat):Option Evt × Cf:=match r with
|.go t=>(none,⟨.mark n t,R,j⟩)
|.block m p s=>(some (.block m p s),⟨.table n m p s TT0,R,j⟩)
|.tail s=>(some (.tail s),⟨.behind,R,j⟩)
|.bad=>(some (.bad 242),⟨.bad 242,R,j⟩)
def AB (c:Cf):Option Evt × Cf:=match c.s with
|.head t=>match c.R with
 |[]=>(some (.bad 50),⟨.bad 50,c.R,c.j⟩)
 |x::R=>Qs (t.step x) R 0
|.mark n t=>match c.R with
 |[]=>(some (.bad 50),⟨.bad 50,c.R,c.j⟩)
 |x::R=>MX n (t.step n x) R 0
|.table n m p s t=>if c.j < 8 * c.R.length then Oj n m p s t c.R c.j else (some (.bad 50),⟨.bad 50,c.R,c.j⟩)
|.syms n m p s L q k b=>if c.j < 8 * c.R.length then eY n m p s L q k b c.R c.j else (some (.bad 50),⟨.bad 50,c.R,c.j⟩)
|.pad n m p s=>if zpad c.R c.j then (some (.U5 m p s),⟨.mark n .mark,c.R.drop ((c.j+7) / 8),0⟩) else (some (.bad 160),⟨.bad 160,c.R.drop ((c.j+7) / 8),0⟩)
|.behind=>if 0 < c.R.length then (some (.bad 261),⟨.bad 261,c.R,c.j⟩) else (some .fin,⟨.over,c.R,c.j⟩)
|.over=>(some .fin,c)
|.bad e=>(some (.bad e),c)
def Cf.mu (c:Cf):Nat:=match c.s with
|.head _=>8 * c.R.length+1
|.mark _ _=>8 * c.R.length+1
|.table _ _ _ _ _=>8 * c.R.length - c.j+2
|.syms _ _ _ _ _ _ _ _=>8 * c.R.length - c.j+2
|.pad _ _ _ _=>8 * c.R.length - c.j+2
|.behind=>8 * c.R.length+1
|.over=>0
|.bad _=>0
def Evt.last:Evt->Bool
|.fin=>true
|.bad _=>true
|_=>false
def H6:Option Evt->Bool
|none=>false
|some e=>e.last
theorem Ol (c:Cf) (h:H6 (AB c).1=false):(AB c).2.mu < c.mu:=by
 obtain ⟨s,R,j⟩:=c
 cases s with
|head t =>
  cases R with
 |nil=>simp [AB,H6,Evt.last] at h
 |cons x R =>
   simp only [AB] at h ⊢
   cases hr:t.step x<;>simp [Qs,H6,Evt.last,Cf.mu] at h ⊢<;>try omega
|mark n t =>
  cases R with
 |nil=>simp [AB,H6,Evt.last] at h
 |cons x R =>
   simp only [AB] at h ⊢
   cases hr:t.step n x<;>simp [MX,H6,Evt.last,Cf.mu] at h ⊢<;>try omega
|table n m p s t =>
  simp only [AB] at h ⊢
  by_cases hj:j < 8 * R.length
  ·rw [if_pos hj] at h ⊢
   simp only [Oj] at h ⊢
   by_cases h1:(t.next (AP R j)).2=true
   ·rw [if_pos h1] at h ⊢
    by_cases h2:(t.next (AP R j)).1.s=258
    ·rw [if_pos h2] at h ⊢;simp [Cf.mu];omega
    ·rw [if_neg h2] at h ⊢;simp [Cf.mu];omega
   ·rw [if_neg h1] at h;simp [H6,Evt.last] at h
  ·rw [if_neg hj] at h;simp [H6,Evt.last] at h
|syms n m p s L q k b =>
  simp only [AB] at h ⊢
  by_cases hj:j < 8 * R.length
  ·rw [if_pos hj] at h ⊢
   simp only [eY] at h ⊢
   by_cases h1:(pfs L q k (AP R j)).2.2.2=true
   ·rw [if_pos h1] at h ⊢
    generalize FY b (pfs L q k (AP R j)).2.2.1=d at *
    simp only [MQ] at h ⊢
    by_cases h2:d.2.2.2=0
    ·rw [if_pos h2] at h ⊢
     cases d.2.2.1<;>simp [Cf.mu]<;>omega
    ·rw [if_neg h2] at h;simp [H6,Evt.last] at h
   ·rw [if_neg h1] at h ⊢;simp [Cf.mu];omega
  ·rw [if_neg hj] at h;simp [H6,Evt.last] at h
|pad n m p s =>
  simp only [AB] at h ⊢
  by_cases h1:zpad R j=true
  ·rw [if_pos h1] at h ⊢;simp [Cf.mu];omega
  ·rw [if_neg h1] at h;simp [H6,Evt.last] at h
|behind =>
  simp only [AB] at h
  split at h<;>simp [H6,Evt.last] at h
|over=>simp [AB,H6,Evt.last] at h
|bad e=>simp [AB,H6,Evt.last] at h
def chk (out:List Int) (p s:Int):Option (List Int):=match bwk out p.toNat out.length 0 [] with
|none=>none
|some t=>if crc 0 [t.reverse]=s then some t.reverse else none
def G (c:Cf) (out x:List Int) (b:Nat):List Int × Nat × Bool :=
 if h:H6 (AB c).1=true then (x,b,match (AB c).1 with|some .fin=>true|_=>false)
 else match (AB c).1 with
 |some (.block _ _ _)=>G (AB c).2 [] x b
 |some (.bytes t)=>G (AB c).2 (out++t) x b
 |some (.U5 _ p s)=>match chk out p s with
  |none=>(x,b,false)
  |some t=>G (AB c).2 [] (x++t) (b+1)
 |some (.tail s)=>if s=crc 0 [x] then G (AB c).2 out x b else (x,b,false)
 |_=>G (AB c).2 out x b
termination_by c.mu
decreasing_by all_goals exact Ol c (by simpa using h)
def DI:HT->List Int->Option (Int × List Int)
|_,[]=>none
|t,x::R=>match t.step x with
 |.go t2=>DI t2 R
 |.done n=>some (n,R)
 |.bad _=>none
def BO (n:Int):MT->List Int->Option (MR × List Int)
|_,[]=>none
|t,x::R=>match t.step n x with
 |.go t2=>BO n t2 R
 |.bad=>none
 |r=>some (r,R)
def Dt (L:List Int):Int->Nat->DS->List Int->List Int->Nat->Option (List Int × Nat)
|_,_,_,[],_,_=>none
|q,k,b,x::r,out,a =>
  if (pfs L q k x).2.2.2=true then
   (if (FY b (pfs L q k x).2.2.1).2.2.2=0 then
    (if (FY b (pfs L q k x).2.2.1).2.2.1=true then some (out++(FY b (pfs L q k x).2.2.1).2.1,a+1)
    else Dt L (pfs L q k x).1 (pfs L q k x).2.1 (FY b (pfs L q k x).2.2.1).1 r (out++(FY b (pfs L q k x).2.2.1).2.1) (a+1))
   else none)
  else Dt L (pfs L q k x).1 (pfs L q k x).2.1 b r out (a+1)
def Ik (m p s:Int) (rest:List Int):Option (List Int × List Int) :=
 if (Bv TT0 (bitsOf rest (8 * rest.length)) 0).2.2=0 then
  match Dt (Bv TT0 (bitsOf rest (8 * rest.length)) 0).1 0 0 (dNew m) ((bitsOf rest (8 * rest.length)).drop (Bv TT0 (bitsOf rest (8 * rest.length)) 0).2.1.toNat) [] 0 with
 |none=>none
 |some (last,many)=>if zpad rest ((Bv TT0 (bitsOf rest (8 * rest.length)) 0).2.1.toNat+many) then
    (match chk last p s with
   |none=>none
   |some t=>some (t,rest.drop (((Bv TT0 (bitsOf rest (8 * rest.length)) 0).2.1.toNat+many+7) / 8)))
   else none
 else none
def IW (n:Int):Nat->List Int->List Int->Nat->List Int × Nat × Bool
|0,_,x,b=>(x,b,false)
|f+1,left,x,b=>match BO n .mark left with
 |some (.block m p s,rest)=>(match Ik m p s rest with
  |none=>(x,b,false)
  |some (t,r2)=>IW n f r2 (x++t) (b+1))
 |some (.tail s,rest)=>if s=crc 0 [x] then (if 0 < rest.length then (x,b,false) else (x,b,true)) else (x,b,false)
 |_=>(x,b,false)
def BU (gr:Nat) (R:List Int) (j:Nat) (rs RR:Rws):Prop:=∃ (X E:Rws) (v:Value) (used:Int),RR=(gr,RD v ((j % 8:Nat):Int) used true)::(X++(E++rs))/\Tail X v (R.drop (j / 8))/\Bytes R/\R.length<=1000/\j<=8 * R.length/\0<=used/\used+((8 * R.length - j:Nat):Int)<=100000
def V4 (c:Cf) (k:Nat) (hs ms ts cs ds er:Array Value):Prop:=match c.s with
|.head t=>k=0/\c.j=0/\t.ok/\hs=t.v/\ms=MS 0 0 0 0 0 0 0
|.mark n t=>k=1/\c.j=0/\1<=n/\n<=65536/\t.ok n/\hs=HS 4 0 0 n/\ms=t.v
|.table n m p s t=>k=2/\1<=n/\n<=65536/\1<=m/\m<=n/\t.ok/\hs=HS 4 0 0 n/\ms=MS 4 0 0 m p s 4/\ts=t.v
|.syms n _ _ _ L q i b=>k=3/\1<=n/\n<=65536/\Uk L q i/\Vl b.l/\hs=HS 4 0 0 n/\cs=CS L q i/\ds=V b
|.pad n _ _ _=>k=4/\1<=n/\n<=65536/\hs=HS 4 0 0 n
|.behind=>k=5/\c.j=0
|.over=>k=6
|.bad e=>k=7/\er=ER e
def Rel (gp gr:Nat) (rs:Rws) (c:Cf) (R:Rws):Prop:=∃ (k:Nat) (hs ms ts cs ds er:Array Value) (RR:Rws),R=(gp,PR (PT ((k:Nat)+1)) hs ms ts cs ds er)::RR/\k < 8/\PRz (PT ((k:Nat)+1)) hs ms ts cs ds er/\V4 c k hs ms ts cs ds er/\BU gr c.R c.j rs RR
def yR:Evt->Int->Int->Value->Prop
|.head _,kd,_,_=>kd=2
|.block m _ _,kd,m2,_=>kd=3/\m2=m
|.bytes t,kd,_,v=>kd=4/\∃ a c,v=.slice a t.length c
|.U5 _ _ _,kd,_,_=>kd=5
|.tail _,kd,_,_=>kd=6
|.fin,kd,_,_=>kd=7
|.bad _,kd,_,_=>kd=8
def CPo (gp gr:Nat) (rs:Rws) (w0:World) (ss:List Sl) (c:Cf) (x:Ending) (w':World):Prop:=∃ kd n m p s v e R,x=.returned (.tuple #[.agg (EVT kd n m p s v e),.bool (AB c).1.isSome])/\v.oneCell'=true/\Own w0 w' R ss/\Rel gp gr rs (AB c).2 R/\∀ ev,(AB c).1=some ev->yR ev kd m v
theorem A21 (R:List Int) (j:Nat) (hj:j < 8 * R.length):pk (R.drop (j / 8)) (j % 8) 1=AP R j:=by
 have h1:(j % 8+1+7) / 8=1:=by omega
 have h2:1 * 8 - j % 8 - 1=7 - j % 8:=by omega
 have h3:j / 8 < R.length:=by omega
 rw [pk,h1,h2,AP]
 have h4:(R.drop (j / 8)).take 1=[gi R (j / 8)]:=by
  rw [List.drop_eq_getElem_cons h3,List.take_succ_cons,List.take_zero]
  simp [gi,h3]
 rw [h4]
 simp [big]
theorem A05 (x:Int) (R:List Int) (h0:0<=x) (h1:x<=255):pk (x::R) 0 8=x:=by
 have:x % 256=x:=by omega
 simpa [pk,big] using this
theorem Own.jA {w0 w:World} {g p q:Nat × Array Value} {X rs:Rws} {ss:List Sl} (h:Own w0 w (g::p::q::(X++rs)) ss):Own w0 w (p::q::(X++(g::rs))) ss:=h.perm (List.perm_middle (l₁:=p::q::X))
theorem Own.Xj {w0 w:World} {g p q:Nat × Array Value} {X rs:Rws} {ss:List Sl} (h:Own w0 w (p::q::(X++(g::rs))) ss):Own w0 w (g::p::q::(X++rs)) ss:=h.perm (List.perm_middle (l₁:=p::q::X)).symm
section
variable {gp gr:Nat} {pt hs ms ts cs ds er:Array Value} {R:List Int} {j:Nat} {rs RR:Rws} {w0:World} {ss:List Sl}
theorem take1 (hz:PRz pt hs ms ts cs ds er) (hr:BU gr R j rs RR) (hj:j < 8 * R.length):∀ W g,Own w0 W (g::(gp,PR pt hs ms ts cs ds er)::RR) ss->Calls Tryz.prog 124 #[.pointer (some ⟨gp,0,none⟩),.pointer (some ⟨gr,0,none⟩),.int .i64 1] W fun x w'=>(x=.returned (.tuple #[.int .u32 (AP R j),.agg (EVT 0 0 0 0 0 (.slice none 0 0) 0),.bool true]))/\∃ RR',BU gr R (j+1) rs RR'/\Own w0 w' (g::(gp,PR pt hs ms ts cs ds er)::RR') ss:=by
 intro W g hm
 obtain ⟨X,E,v,used,rfl,ht,hB,hl,_,hu0,hu⟩:=hr
 refine (ig gp gr pt hs ms ts cs ds er X v (R.drop (j / 8)) (j % 8) 1 used true w0 W (g::(E++rs)) ss hm.jA hz ht (by simp;omega) (by omega) (by omega) (by omega) hu0 (by omega) (fun x hx=>hB x (List.mem_of_mem_drop hx)) (by simp;omega)).mono ?_
 rintro x w' ⟨rfl,v2,ht2,hm2⟩
 rw [A21 R j hj]
 refine ⟨rfl,_,⟨X,E,v2,used+1,?_,?_,hB,hl,by omega,by omega,by omega⟩,hm2.Xj⟩
 ·have e:(j % 8+1) % 8=(j+1) % 8:=by omega
  rw [e];rfl
 ·have e:(R.drop (j / 8)).drop ((j % 8+1) / 8)=R.drop ((j+1) / 8):=by
   rw [List.drop_drop];congr 1;omega
  rwa [e] at ht2
theorem take8 (hz:PRz pt hs ms ts cs ds er) {y:Int} (hr:BU gr (y::R) 0 rs RR):∀ W g,Own w0 W (g::(gp,PR pt hs ms ts cs ds er)::RR) ss->Calls Tryz.prog 124 #[.pointer (some ⟨gp,0,none⟩),.pointer (some ⟨gr,0,none⟩),.int .i64 8] W fun x w'=>(x=.returned (.tuple #[.int .u32 y,.agg (EVT 0 0 0 0 0 (.slice none 0 0) 0),.bool true]))/\∃ RR',BU gr R 0 rs RR'/\Own w0 w' (g::(gp,PR pt hs ms ts cs ds er)::RR') ss:=by
 intro W g hm
 obtain ⟨X,E,v,used,rfl,ht,hB,hl,_,hu0,hu⟩:=hr
 have hy:=hB y (by simp)
 simp only [List.length_cons] at hl hu
 refine (ig gp gr pt hs ms ts cs ds er X v (y::R) 0 8 used true w0 W (g::(E++rs)) ss hm.jA hz ht (by simp;omega) (by omega) (by omega) (by omega) hu0 (by omega) hB (by simp;omega)).mono ?_
 rintro x w' ⟨rfl,v2,ht2,hm2⟩
 rw [A05 y R hy.1 (by omega)]
 exact ⟨rfl,_,⟨X,E,v2,used+8,rfl,ht2,fun x hx=>hB x (List.mem_cons_of_mem _ hx),by omega,by omega,by omega,by omega⟩,hm2.Xj⟩
theorem take0 (n:Nat) (hn:1<=n) (hn8:n<=8) (hz:PRz pt hs ms ts cs ds er) (hr:BU gr R j rs RR) (hj:¬ j < 8 * R.length):∀ W g,Own w0 W (g::(gp,PR pt hs ms ts cs ds er)::RR) ss->Calls Tryz.prog 124 #[.pointer (some ⟨gp,0,none⟩),.pointer (some ⟨gr,0,none⟩),.int .i64 n] W fun x w'=>(x=.returned (.tuple #[.int .u32 0,.agg (EVT 8 0 0 0 0 (.slice none 0 0) 50),.bool false]))/\∃ RR',BU gr R j rs RR'/\Own w0 w' (g::(gp,PR (PT 8) hs ms ts cs ds (ER 50))::RR') ss:=by
 intro W g hm
 obtain ⟨X,E,v,used,rfl,ht,hB,hl,hj2,hu0,hu⟩:=hr
 have e:j % 8=0:=by omega
 refine (aS gp gr pt hs ms ts cs ds er X v (R.drop (j / 8)) (j % 8) n used true w0 W (g::(E++rs)) ss hm.jA hz ht (by simp;omega) (by omega) hn8 hn hu0 (by omega) (by simp;omega) rfl).mono ?_
 rintro x w' ⟨rfl,hm2⟩
 exact ⟨rfl,_,⟨X,E,v,used,rfl,ht,hB,hl,hj2,hu0,hu⟩,hm2.Xj⟩
end
variable {pt:Array Value} {c c2:Cf} {t:HT} {e kd m n p s y:Int} {R2:List Int} {j2 k:Nat}
section
variable {gp gr:Nat} {hs ms ts cs ds er:Array Value} {R:List Int} {j:Nat} {rs RR:Rws} {w0 w w':World} {ss:List Sl}
theorem CPo.of {o:Option Evt} {v:Value} (hc:AB c=(o,c2)) (hv:v.oneCell'=true) (hm:Own w0 w' ((gp,PR (PT ((k:Nat)+1)) hs ms ts cs ds er)::RR) ss) (hk:k < 8) (hz:PRz (PT ((k:Nat)+1)) hs ms ts cs ds er) (hp:V4 c2 k hs ms ts cs ds er) (hr:BU gr c2.R c2.j rs RR) (he:∀ ev,o=some ev->yR ev kd m v):CPo gp gr rs w0 ss c (.returned (.tuple #[.agg (EVT kd n m p s v e),.bool o.isSome])) w':=by
 unfold CPo
 rw [hc]
 exact ⟨kd,n,m,p,s,v,e,_,rfl,hv,hm,⟨k,hs,ms,ts,cs,ds,er,RR,rfl,hk,hz,hp,hr⟩,he⟩
theorem CPo.bad (hc:AB c=(some (.bad e),⟨.bad e,R2,j2⟩)) (hm:Own w0 w' ((gp,PR (PT 8) hs ms ts cs ds (ER e))::RR) ss) (hz:hs.size=4/\ms.size=7/\ts.size=262/\cs.size=260/\ds.size=260) (hr:BU gr R2 j2 rs RR):CPo gp gr rs w0 ss c (.returned (.tuple #[.agg (EVT 8 n m p s (.slice none 0 0) e),.bool true])) w':=by
 refine CPo.of (k:=7) hc rfl hm (by omega) ⟨rfl,hz.1,hz.2.1,hz.2.2.1,hz.2.2.2.1,hz.2.2.2.2,rfl⟩ ⟨rfl,rfl⟩ hr ?_
 rintro ev h
 cases h
 rfl
theorem PRz.five (hz:PRz pt hs ms ts cs ds er):hs.size=4/\ms.size=7/\ts.size=262/\cs.size=260/\ds.size=260:=⟨hz.hs,hz.ms,hz.ts,hz.cs,hz.ds⟩
theorem BU.bd (hr:BU gr (y::R) j rs RR):0<=y/\y<=255:=by
 obtain ⟨X,E,v,used,_,_,hB,_⟩:=hr
 have:=hB y (by simp)
 omega
theorem A0F (hm:Own w0 w ((gp,PR (PT 1) hs ms ts cs ds er)::RR) ss) (hz:PRz (PT 1) hs ms ts cs ds er) (hp:V4 ⟨.head t,R,j⟩ 0 hs ms ts cs ds er) (hr:BU gr R j rs RR):Calls Tryz.prog 78 #[.pointer (some ⟨gp,0,none⟩),.pointer (some ⟨gr,0,none⟩)] w (CPo gp gr rs w0 ss ⟨.head t,R,j⟩):=by
 obtain ⟨_,hj,ho,rfl,rfl⟩:=hp
 obtain rfl:j=0:=hj
 cases R with
|nil =>
  refine (sW gp _ _ _ _ _ _ _ _ RR w0 w ss hm (BU gr [] 0 rs) 8 50 _ (Lib.hid (take0 8 (by omega) (by omega) hz hr (by simp)))).mono ?_
  rintro x w' ⟨rfl,RR',hQ,hm⟩
  exact CPo.bad rfl hm hz.five hQ
|cons y R =>
  have CT:=Lib.hid (take8 (gp:=gp) (w0:=w0) (ss:=ss) hz hr)
  obtain ⟨c0,c1⟩:=hr.bd
  have CS:=fun w=>VA t ho y c0 c1 w
  have hok:=HT.step_ok ho c0 c1
  cases ht:t.step y with
 |go t2 =>
   rw [ht] at hok
   simp only [ht] at CS
   refine (vX gp t.a t.V t.M y t2.a t2.V t2.M c0 c1 _ _ _ ts cs ds er RR w0 w ss hm (BU gr R 0 rs) CT (Lib.hid CS) hz).mono ?_
   rintro x w' ⟨rfl,RR',hQ,hm⟩
   exact CPo.of (k:=0) (c2:=⟨.head t2,R,0⟩) (o:=none) (by simp [AB,ht,Qs]) rfl hm (by omega) ⟨rfl,rfl,hz.ms,hz.ts,hz.cs,hz.ds,hz.er⟩ ⟨rfl,rfl,hok,rfl,rfl⟩ hQ (fun ev h=>by cases h)
 |done n =>
   rw [ht] at hok
   simp only [ht] at CS
   refine (dV gp t.a t.V t.M y n c0 c1 _ _ _ ts cs ds er RR w0 w ss hm (BU gr R 0 rs) CT (Lib.hid CS) hz).mono ?_
   rintro x w' ⟨rfl,RR',hQ,hm⟩
   exact CPo.of (k:=1) (c2:=⟨.mark n .mark,R,0⟩) (o:=some (.head n)) (by simp [AB,ht,Qs]) rfl hm (by omega) ⟨rfl,rfl,hz.ms,hz.ts,hz.cs,hz.ds,hz.er⟩ ⟨rfl,rfl,hok.1,hok.2,trivial,rfl,rfl⟩ hQ (fun ev h=>by cases h;rfl)
 |bad e =>
   rw [ht] at hok
   simp only [ht] at CS
   have he:e ≠ 0:=by rcases hok with h|h|h<;>omega
   refine (nG gp t.a t.V t.M y e c0 c1 _ _ _ ts cs ds er RR w0 w ss hm (BU gr R 0 rs) CT (Lib.hid CS) hz he).mono ?_
   rintro x w' ⟨rfl,RR',hQ,hm⟩
   exact CPo.bad (by simp [AB,ht,Qs]) hm hz.five hQ
theorem MT.qK (t:MT):∃ a V M m p s k,t.v=MS a V M m p s k:=by cases t<;>exact ⟨_,_,_,_,_,_,_,rfl⟩
theorem A0E {t:MT} (hm:Own w0 w ((gp,PR (PT 2) hs ms ts cs ds er)::RR) ss) (hz:PRz (PT 2) hs ms ts cs ds er) (hp:V4 ⟨.mark n t,R,j⟩ 1 hs ms ts cs ds er) (hr:BU gr R j rs RR):Calls Tryz.prog 80 #[.pointer (some ⟨gp,0,none⟩),.pointer (some ⟨gr,0,none⟩)] w (CPo gp gr rs w0 ss ⟨.mark n t,R,j⟩):=by
 obtain ⟨_,hj,n1,n2,ho,rfl,rfl⟩:=hp
 obtain rfl:j=0:=hj
 cases R with
|nil =>
  refine (sV gp _ _ _ _ _ _ _ _ RR w0 w ss hm (BU gr [] 0 rs) 8 50 _ (Lib.hid (take0 8 (by omega) (by omega) hz hr (by simp)))).mono ?_
  rintro x w' ⟨rfl,RR',hQ,hm⟩
  exact CPo.bad rfl hm hz.five hQ
|cons y R =>
  have CT:=Lib.hid (take8 (gp:=gp) (w0:=w0) (ss:=ss) hz hr)
  obtain ⟨c0,c1⟩:=hr.bd
  have CS:=fun w=>Vo n n1 n2 t ho y c0 c1 w
  have hok:=MT.step_ok n1 n2 ho c0 c1
  obtain ⟨a,V,M,m,p,s,k,hv⟩:=MT.qK t
  rw [hv] at CT hm hz
  simp only [hv] at CS
  cases ht:MT.step n y t with
 |go t2 =>
   obtain ⟨a2,V2,M2,m2,p2,s2,k2,hv2⟩:=MT.qK t2
   rw [ht] at hok
   simp only [ht,MR.val,hv2] at CS
   refine (uV gp n a V M m p s k y a2 V2 M2 m2 p2 s2 k2 c0 c1 _ _ ts cs ds er RR w0 w ss hm (BU gr R 0 rs) CT (Lib.hid CS) hz).mono ?_
   rintro x w' ⟨rfl,RR',hQ,hm⟩
   exact CPo.of (k:=1) (c2:=⟨.mark n t2,R,0⟩) (o:=none) (by simp [AB,ht,MX]) rfl hm (by omega) ⟨rfl,rfl,rfl,hz.ts,hz.cs,hz.ds,hz.er⟩ ⟨rfl,rfl,n1,n2,hok,rfl,hv2.symm⟩ hQ (fun ev h=>by cases h)
 |block m2 p2 s2 =>
   rw [ht] at hok
   simp only [ht] at CS
   refine (YK gp n a V M m p s k y 0 0 m2 p2 s2 4 c0 c1 _ _ ts cs ds er RR w0 w ss hm (BU gr R 0 rs) CT (Lib.hid CS) hz).mono ?_
   rintro x w' ⟨rfl,RR',hQ,hm⟩
   exact CPo.of (k:=2) (c2:=⟨.table n m2 p2 s2 TT0,R,0⟩) (o:=some (.block m2 p2 s2)) (by simp [AB,ht,MX]) rfl hm (by omega) ⟨rfl,rfl,rfl,Ju,hz.cs,hz.ds,hz.er⟩ ⟨rfl,n1,n2,hok.1,hok.2.1,XK,rfl,rfl,rfl⟩ hQ (fun ev h=>by cases h;exact ⟨rfl,rfl⟩)
 |tail s2 =>
   rw [ht] at hok
   simp only [ht] at CS
   refine (dJ gp n a V M m p s k y 0 0 0 0 s2 4 c0 c1 _ _ ts cs ds er RR w0 w ss hm (BU gr R 0 rs) CT (Lib.hid CS) hz).mono ?_
   rintro x w' ⟨rfl,RR',hQ,hm⟩
   exact CPo.of (k:=5) (c2:=⟨.behind,R,0⟩) (o:=some (.tail s2)) (by simp [AB,ht,MX]) rfl hm (by omega) ⟨rfl,rfl,rfl,hz.ts,hz.cs,hz.ds,hz.er⟩ ⟨rfl,rfl⟩ hQ (fun ev h=>by cases h;rfl)
 |bad =>
   simp only [ht] at CS
   refine (mQ gp n a V M m p s k y c0 c1 _ _ ts cs ds er RR w0 w ss hm (BU gr R 0 rs) CT (Lib.hid CS) hz).mono ?_
   rintro x w' ⟨rfl,RR',hQ,hm⟩
   exact CPo.bad (by simp [AB,ht,MX]) hm hz.five hQ
end
variable {b:DS} {bit m n p q s:Int} {L:List Int} {i:Nat} {t:TT}
section
variable {gp gr:Nat} {hs ms ts cs ds er:Array Value} {R:List Int} {j:Nat} {rs RR:Rws} {w0 w w':World} {ss:List Sl}
theorem TT.ok.A24 (h:t.ok) (h0:0<=bit) (h1:bit<=1) (hk:(t.next bit).2=true):(t.next bit).1.l.length=258:=by
 rcases h.next h0 h1 hk with h|h
 ·exact h.2.len
 ·exact h.2.1
theorem Xw (h1:1<=m) (h2:m<=65536):Vl (dNew m).l:=by
 rw [Oi (by omega) (by omega)]
 exact A1E
theorem Xu (h:Vl b.l) (s:Int):Vl (FY b s).1.l:=by
 rw [FY]
 split
 ·split
  ·rw [G9]
   split
   ·exact h
   ·split
    ·exact h
    ·split
     ·exact h
     ·exact h.Ie _
  ·exact h
 ·exact h
theorem ZB (b:DS) (s:Int):(FY b s).2.1.length<=1000000:=by
 rw [FY]
 split
 ·rename_i h
  obtain ⟨a1,a2,a3,a4,_⟩:=TL h.1
  split
  ·rw [G9]
   split
   ·simp
   ·split
    ·simp [DS.rep];omega
    ·split
     ·simp
     ·simp [DS.rep];omega
  ·simp
 ·simp
theorem xq (hm:Own w0 w ((gp,PR (PT 3) hs ms ts cs ds er)::RR) ss) (hz:PRz (PT 3) hs ms ts cs ds er) (hp:V4 ⟨.table n m p s t,R,j⟩ 2 hs ms ts cs ds er) (hr:BU gr R j rs RR):Calls Tryz.prog 82 #[.pointer (some ⟨gp,0,none⟩),.pointer (some ⟨gr,0,none⟩)] w (CPo gp gr rs w0 ss ⟨.table n m p s t,R,j⟩):=by
 obtain ⟨_,n1,n2,m1,m2,ho,rfl,rfl,rfl⟩:=hp
 by_cases hj:j < 8 * R.length
 ·have CT:=Lib.hid (take1 (gp:=gp) (w0:=w0) (ss:=ss) hz hr hj)
  obtain ⟨c0,c1⟩:=KY R j
  have CX:=fun w=>SK t (AP R j) ho c0 c1 w
  by_cases h1:(t.next (AP R j)).2=true
  ·simp only [h1,if_true] at CX
   have hlen:=ho.A24 c0 c1 h1
   by_cases h2:(t.next (AP R j)).1.s=258
   ·have hn:=ho.next c0 c1 h1
    have hn2:(t.next (AP R j)).1.l.length=258/\Bytes (t.next (AP R j)).1.l/\JL (t.next (AP R j)).1.l=true:=by
     rcases hn with h|h
     ·omega
     ·exact h.2
    have e:((t.next (AP R j)).1.s == 258)=true:=by simp [h2]
    simp only [e] at CX
    refine (XU gp (AP R j) 4 0 0 m p s 4 c0 c1 _ _ _ _ cs ds er RR w0 w ss hm (BU gr R (j+1) rs) CT _ (Lib.hid CX) hz (Dy hlen) (Di _ _ _ _ _) (CS (t.next (AP R j)).1.l 0 0) (V (dNew m)) (J .u8 (t.next (AP R j)).1.l) (Jv hlen) (by rw [Df];exact hlen) (CU hlen) (Eb _ _ _) (FT (YS m)) (DN _) (Lib.hid (fun w=>Yh _ hn2.1 hn2.2.1 hn2.2.2 w)) (Lib.hid (fun w=>Zx m w))).mono ?_
    rintro x w' ⟨rfl,RR',hQ,hm⟩
    exact CPo.of (k:=3) (c2:=⟨.syms n m p s (t.next (AP R j)).1.l 0 0 (dNew m),R,j+1⟩) (o:=none) (by simp [AB,hj,Oj,h1,h2]) rfl hm (by omega) ⟨rfl,rfl,rfl,Dy hlen,CU hlen,FT (YS m),hz.er⟩ ⟨rfl,n1,n2,Uk.zero hn2.1 hn2.2.1 hn2.2.2,Xw m1 (by omega),rfl,rfl,rfl⟩ hQ (fun ev h=>by cases h)
   ·have hn:(t.next (AP R j)).1.ok:=by
     rcases ho.next c0 c1 h1 with h|h
     ·exact h.2
     ·exact absurd h.1 h2
    have e:((t.next (AP R j)).1.s == 258)=false:=by simp [h2]
    simp only [e] at CX
    refine (kS gp (AP R j) c0 c1 _ _ _ _ _ cs ds er RR w0 w ss hm (BU gr R (j+1) rs) CT _ (Lib.hid CX) hz (Dy hlen) (Di _ _ _ _ _)).mono ?_
    rintro x w' ⟨rfl,RR',hQ,hm⟩
    exact CPo.of (k:=2) (c2:=⟨.table n m p s (t.next (AP R j)).1,R,j+1⟩) (o:=none) (by simp [AB,hj,Oj,h1,h2]) rfl hm (by omega) ⟨rfl,rfl,rfl,Dy hlen,hz.cs,hz.ds,hz.er⟩ ⟨rfl,n1,n2,m1,m2,hn,rfl,rfl,rfl⟩ hQ (fun ev h=>by cases h)
  ·simp only [h1,if_false,Bool.false_eq_true] at CX
   refine (aT gp (AP R j) c0 c1 _ _ _ _ _ cs ds er RR w0 w ss hm (BU gr R (j+1) rs) CT _ (Lib.hid CX) hz Ju XJ).mono ?_
   rintro x w' ⟨rfl,RR',hQ,hm⟩
   exact CPo.bad (by simp [AB,hj,Oj,h1]) hm hz.five hQ
 ·refine (sU gp _ _ _ _ _ _ _ _ RR w0 w ss hm (BU gr R j rs) 8 50 _ (Lib.hid (take0 1 (by omega) (by omega) hz hr hj))).mono ?_
  rintro x w' ⟨rfl,RR',hQ,hm⟩
  exact CPo.bad (by simp [AB,hj]) hm hz.five hQ
theorem Txt.slice {X:Rws} {v:Value} {T:List Int} (h:Txt X v (vs .u8 T)):∃ a c,v=.slice a T.length c:=by
 rcases h with ⟨rfl,h,_⟩|⟨g,c,cells,_,rfl,_⟩
 ·have:T=[]:=by simpa [vs] using h
  exact ⟨none,0,by rw [this];rfl⟩
 ·exact ⟨_,c,by rw [Ai]⟩
theorem BU.more {X:Rws} (hr:BU gr R j rs RR) (hm:Own w0 w ((gp,cs)::(X++RR)) ss):∃ RR',BU gr R j rs RR'/\Own w0 w ((gp,cs)::RR') ss:=by
 obtain ⟨Y,E,v,used,rfl,h⟩:=hr
 refine ⟨(gr,RD v ((j % 8:Nat):Int) used true)::(Y++((X++E)++rs)),⟨Y,X++E,v,used,rfl,h⟩,hm.perm (List.Perm.cons _ ?_)⟩
 have h1:(X++(gr,RD v ((j % 8:Nat):Int) used true)::(Y++(E++rs))).Perm ((gr,RD v ((j % 8:Nat):Int) used true)::(X++(Y++(E++rs)))):=List.perm_middle
 refine List.Perm.trans (List.Perm.cons _ ?_) h1.symm
 have h2:(X++(Y++(E++rs))).Perm (Y++(X++(E++rs))):=by
  rw [<- List.append_assoc,<- List.append_assoc Y]
  exact List.perm_append_comm.append_right _
 rw [List.append_assoc]
 exact h2.symm
theorem A0C (hm:Own w0 w ((gp,PR (PT 4) hs ms ts cs ds er)::RR) ss) (hz:PRz (PT 4) hs ms ts cs ds er) (hp:V4 ⟨.syms n m p s L q i b,R,j⟩ 3 hs ms ts cs ds er) (hr:BU gr R j rs RR):Calls Tryz.prog 84 #[.pointer (some ⟨gp,0,none⟩),.pointer (some ⟨gr,0,none⟩)] w (CPo gp gr rs w0 ss ⟨.syms n m p s L q i b,R,j⟩):=by
 obtain ⟨_,n1,n2,ho,hv,rfl,rfl,rfl⟩:=hp
 by_cases hj:j < 8 * R.length
 ·have CT:=Lib.hid (take1 (gp:=gp) (w0:=w0) (ss:=ss) hz hr hj)
  obtain ⟨c0,c1⟩:=KY R j
  have CF:=fun w=>RP L q (AP R j) i ho c0 c1 w
  have ho2:=ho.next c0 c1
  have hb2:Vl (FY b (pfs L q i (AP R j)).2.2.1).1.l:=Xu hv _
  by_cases h1:(pfs L q i (AP R j)).2.2.2=true
  ·simp only [h1] at CF
   have CE:=fun w=>VJ b (pfs L q i (AP R j)).2.2.1 w hv.len hv.bytes
   have hT:=ZB b (pfs L q i (AP R j)).2.2.1
   have hc:AB ⟨.syms n m p s L q i b,R,j⟩=MQ n m p s L (pfs L q i (AP R j)).1 (pfs L q i (AP R j)).2.1 (FY b (pfs L q i (AP R j)).2.2.1) R (j+1):=by simp [AB,hj,eY,h1]
   generalize (pfs L q i (AP R j)).2.2.1=sy at CF CE hc hT hb2
   generalize FY b sy=d at CE hc hT hb2
   obtain ⟨d1,T,f,e⟩:=d
   by_cases h2:e=0
   ·subst h2
    cases f with
   |false =>
     refine (Wv gp (AP R j) sy c0 c1 _ _ _ _ _ _ _ er RR w0 w ss hm (BU gr R (j+1) rs) CT _ (Lib.hid CF) hz (CU ho.len) (Eb _ _ _) (V d1) T hT (Lib.hid CE) (FT hb2.len) (DN _)).mono ?_
     rintro x w' ⟨v,X,RR',rfl,hX,hQ,hm⟩
     obtain ⟨RR2,hQ2,hm2⟩:=hQ.more hm
     obtain ⟨a,c,rfl⟩:=hX.slice
     have hh:=CPo.of (k:=3) (n:=0) (m:=0) (p:=0) (s:=0) (kd:=4) (e:=0) (v:=.slice a T.length c) (c:=⟨.syms n m p s L q i b,R,j⟩) (c2:=⟨.syms n m p s L (pfs L q i (AP R j)).1 (pfs L q i (AP R j)).2.1 d1,R,j+1⟩) (o:=if 0 < T.length then some (.bytes T) else none) (by rw [hc];simp [MQ]) rfl hm2 (by omega) ⟨rfl,rfl,hz.ms,hz.ts,CU ho.len,FT hb2.len,hz.er⟩ ⟨rfl,n1,n2,ho2,hb2,rfl,rfl,rfl⟩ hQ2 (fun ev h=>by split at h<;>cases h;exact ⟨rfl,_,_,rfl⟩)
     have e:(if 0 < T.length then some (Evt.bytes T) else none).isSome=decide (0 < T.length):=by split<;>simp_all
     rwa [e] at hh
   |true =>
     refine (XV gp (AP R j) sy c0 c1 _ _ _ _ _ _ _ er RR w0 w ss hm (BU gr R (j+1) rs) CT _ (Lib.hid CF) hz (CU ho.len) (Eb _ _ _) (V d1) T hT (Lib.hid CE) (FT hb2.len) (DN _)).mono ?_
     rintro x w' ⟨v,X,RR',rfl,hX,hQ,hm⟩
     obtain ⟨RR2,hQ2,hm2⟩:=hQ.more hm
     obtain ⟨a,c,rfl⟩:=hX.slice
     have hh:=CPo.of (k:=4) (n:=0) (m:=0) (p:=0) (s:=0) (kd:=4) (e:=0) (v:=.slice a T.length c) (c:=⟨.syms n m p s L q i b,R,j⟩) (c2:=⟨.pad n m p s,R,j+1⟩) (o:=if 0 < T.length then some (.bytes T) else none) (by rw [hc];simp [MQ]) rfl hm2 (by omega) ⟨rfl,rfl,hz.ms,hz.ts,CU ho.len,FT hb2.len,hz.er⟩ ⟨rfl,n1,n2,rfl⟩ hQ2 (fun ev h=>by split at h<;>cases h;exact ⟨rfl,_,_,rfl⟩)
     have e:(if 0 < T.length then some (Evt.bytes T) else none).isSome=decide (0 < T.length):=by split<;>simp_all
     rwa [e] at hh
   ·refine (XW gp (AP R j) sy e c0 c1 _ _ _ _ _ _ _ er RR w0 w ss hm (BU gr R (j+1) rs) CT _ (Lib.hid CF) hz (CU ho.len) (Eb _ _ _) f (V d1) T hT (Lib.hid CE) (FT hb2.len) (DN _) h2).mono ?_
    rintro x w' ⟨rfl,X,RR',hQ,hm⟩
    obtain ⟨RR2,hQ2,hm2⟩:=hQ.more hm
    exact CPo.bad (by rw [hc];simp [MQ,h2]) hm2 ⟨rfl,hz.ms,hz.ts,CU ho.len,hz.ds⟩ hQ2
  ·simp only [h1] at CF
   refine (Wx gp (AP R j) _ c0 c1 _ _ _ _ _ _ _ er RR w0 w ss hm (BU gr R (j+1) rs) CT _ (Lib.hid CF) hz (CU ho.len) (Eb _ _ _)).mono ?_
   rintro x w' ⟨rfl,RR',hQ,hm⟩
   exact CPo.of (k:=3) (c2:=⟨.syms n m p s L (pfs L q i (AP R j)).1 (pfs L q i (AP R j)).2.1 b,R,j+1⟩) (o:=none) (by simp [AB,hj,eY,h1]) rfl hm (by omega) ⟨rfl,rfl,hz.ms,hz.ts,CU ho.len,hz.ds,hz.er⟩ ⟨rfl,n1,n2,ho2,hv,rfl,rfl,rfl⟩ hQ (fun ev h=>by cases h)
 ·refine (sS gp _ _ _ _ _ _ _ _ RR w0 w ss hm (BU gr R j rs) 8 50 _ (Lib.hid (take0 1 (by omega) (by omega) hz hr hj))).mono ?_
  rintro x w' ⟨rfl,RR',hQ,hm⟩
  exact CPo.bad (by simp [AB,hj]) hm hz.five hQ
end
def bU (R:List Int) (j:Nat):Int:=if j % 8=0 then 0 else gi R (j / 8) % 2 ^ (8 - j % 8)
def sZ (j:Nat):Int:=if j % 8=0 then 0 else ((8 - j % 8:Nat):Int)
theorem XM (R:List Int) (j:Nat):zpad R j=true ↔ bU R j=0:=by
 rw [zpad,bU,List.all_eq_true]
 by_cases h:j % 8=0
 ·have:8 * ((j+7) / 8) - j=0:=by omega
  simp [h,this]
 ·rw [if_neg h]
  have hn:8 * ((j+7) / 8) - j=8 - j % 8:=by omega
  rw [hn]
  have hb:∀ i,i < 8 - j % 8->AP R (j+i)=gi R (j / 8) / 2 ^ (7 - (j % 8+i)) % 2:=by
   intro i hi
   have h1:(j+i) / 8=j / 8:=by omega
   have h2:(j+i) % 8=j % 8+i:=by omega
   rw [AP,h1,h2]
  have e:(∀ x ∈ List.range (8 - j % 8),(decide (AP R (j+x)=0))=true) ↔ ∀ i,i < 8 - j % 8->gi R (j / 8) / 2 ^ (7 - (j % 8+i)) % 2=0:=by
   constructor
   ·intro H i hi
    rw [<- hb i hi]
    exact of_decide_eq_true (H i (List.mem_range.2 hi))
   ·intro H i hi
    have hi:=List.mem_range.1 hi
    rw [hb i hi]
    exact decide_eq_true (H i hi)
  rw [e]
  generalize gi R (j / 8)=x
  have hc:j % 8=1\/j % 8=2\/j % 8=3\/j % 8=4\/j % 8=5\/j % 8=6\/j % 8=7:=by omega
  rcases hc with hc|hc|hc|hc|hc|hc|hc<;>rw [hc]<;>constructor
  ·intro H
   have h0:=H 0 (by decide);have h1:=H 1 (by decide);have h2:=H 2 (by decide);have h3:=H 3 (by decide);have h4:=H 4 (by decide);have h5:=H 5 (by decide);have h6:=H 6 (by decide)
   simp only [Nat.reduceAdd,Nat.reduceSub,Int.reducePow] at *
   omega
  ·intro H i hi
   have hi2:i=0\/i=1\/i=2\/i=3\/i=4\/i=5\/i=6:=by omega
   rcases hi2 with rfl|rfl|rfl|rfl|rfl|rfl|rfl<;>simp only [Nat.reduceAdd,Nat.reduceSub,Int.reducePow] at *<;>omega
  ·intro H
   have h0:=H 0 (by decide);have h1:=H 1 (by decide);have h2:=H 2 (by decide);have h3:=H 3 (by decide);have h4:=H 4 (by decide);have h5:=H 5 (by decide)
   simp only [Nat.reduceAdd,Nat.reduceSub,Int.reducePow] at *
   omega
  ·intro H i hi
   have hi2:i=0\/i=1\/i=2\/i=3\/i=4\/i=5:=by omega
   rcases hi2 with rfl|rfl|rfl|rfl|rfl|rfl<;>simp only [Nat.reduceAdd,Nat.reduceSub,Int.reducePow] at *<;>omega
  ·intro H
   have h0:=H 0 (by decide);have h1:=H 1 (by decide);have h2:=H 2 (by decide);have h3:=H 3 (by decide);have h4:=H 4 (by decide)
   simp only [Nat.reduceAdd,Nat.reduceSub,Int.reducePow] at *
   omega
  ·intro H i hi
   have hi2:i=0\/i=1\/i=2\/i=3\/i=4:=by omega
   rcases hi2 with rfl|rfl|rfl|rfl|rfl<;>simp only [Nat.reduceAdd,Nat.reduceSub,Int.reducePow] at *<;>omega
  ·intro H
   have h0:=H 0 (by decide);have h1:=H 1 (by decide);have h2:=H 2 (by decide);have h3:=H 3 (by decide)
   simp only [Nat.reduceAdd,Nat.reduceSub,Int.reducePow] at *
   omega
  ·intro H i hi
   have hi2:i=0\/i=1\/i=2\/i=3:=by omega
   rcases hi2 with rfl|rfl|rfl|rfl<;>simp only [Nat.reduceAdd,Nat.reduceSub,Int.reducePow] at *<;>omega
  ·intro H
   have h0:=H 0 (by decide);have h1:=H 1 (by decide);have h2:=H 2 (by decide)
   simp only [Nat.reduceAdd,Nat.reduceSub,Int.reducePow] at *
   omega
  ·intro H i hi
   have hi2:i=0\/i=1\/i=2:=by omega
   rcases hi2 with rfl|rfl|rfl<;>simp only [Nat.reduceAdd,Nat.reduceSub,Int.reducePow] at *<;>omega
  ·intro H
   have h0:=H 0 (by decide);have h1:=H 1 (by decide)
   simp only [Nat.reduceAdd,Nat.reduceSub,Int.reducePow] at *
   omega
  ·intro H i hi
   have hi2:i=0\/i=1:=by omega
   rcases hi2 with rfl|rfl<;>simp only [Nat.reduceAdd,Nat.reduceSub,Int.reducePow] at *<;>omega
  ·intro H
   have h0:=H 0 (by decide)
   simp only [Nat.reduceAdd,Nat.reduceSub,Int.reducePow] at *
   omega
  ·intro H i hi
   have hi2:i=0:=by omega
   subst hi2
   simp only [Nat.reduceAdd,Nat.reduceSub,Int.reducePow] at *
   omega
theorem A20 (R:List Int) (j:Nat) (h3:j / 8 < R.length):pk (R.drop (j / 8)) (j % 8) (8 - j % 8)=gi R (j / 8) % 2 ^ (8 - j % 8):=by
 have h1:(j % 8+(8 - j % 8)+7) / 8=1:=by omega
 have h2:1 * 8 - j % 8 - (8 - j % 8)=0:=by omega
 rw [pk,h1,h2]
 have h4:(R.drop (j / 8)).take 1=[gi R (j / 8)]:=by
  rw [List.drop_eq_getElem_cons h3,List.take_succ_cons,List.take_zero]
  simp [gi,h3]
 rw [h4]
 simp [big]
section
variable {gp gr:Nat} {pt hs ms ts cs ds er:Array Value} {R:List Int} {j:Nat} {rs RR:Rws} {w0 w w':World} {ss:List Sl}
theorem Wi:∀ W g RR,BU gr R j rs RR->Own w0 W (g::(gp,PR pt hs ms ts cs ds er)::RR) ss->Calls Tryz.prog 131 #[.pointer (some ⟨gr,0,none⟩)] W fun x w'=>(x=.returned (.tuple #[.int .u32 (bU R j),.int .i64 (sZ j)]))/\∃ RR',BU gr (R.drop ((j+7) / 8)) 0 rs RR'/\Own w0 w' (g::(gp,PR pt hs ms ts cs ds er)::RR') ss:=by
 rintro W g RR ⟨X,E,v,used,rfl,ht,hB,hl,hj,hu0,hu⟩ hm
 have hB2:∀ k,Bytes (R.drop k):=fun k x hx=>hB x (List.mem_of_mem_drop hx)
 by_cases h:j % 8=0
 ·rw [h] at hm
  refine (o8 gr X v _ used true w0 W _ ss hm.bM ht (hB2 _) (by simp;omega) hu0 (by omega)).mono ?_
  rintro x w' ⟨rfl,hm2⟩
  rw [bU,sZ,if_pos h,if_pos h]
  have e:(j+7) / 8=j / 8:=by omega
  rw [e]
  exact ⟨rfl,_,⟨X,E,v,used,rfl,ht,hB2 _,by simp;omega,by omega,hu0,by simp;omega⟩,hm2.Nh⟩
 ·refine (o7 gr X v _ (j % 8) used true w0 W _ ss hm.bM ht (hB2 _) (by simp;omega) (by omega) hu0 (by omega) (by omega) (by simp;omega)).mono ?_
  rintro x w' ⟨rfl,v2,ht2,hm2⟩
  rw [bU,sZ,if_neg h,if_neg h,A20 R j (by omega)]
  have e:(j+7) / 8=j / 8+1:=by omega
  rw [List.drop_drop] at ht2
  rw [e]
  exact ⟨rfl,_,⟨X,E,v2,used+(8 - j % 8:Nat),rfl,ht2,hB2 _,by simp;omega,by omega,by omega,by simp;omega⟩,hm2.Nh⟩
theorem YT:∀ W g RR,BU gr R 0 rs RR->Own w0 W (g::(gp,PR pt hs ms ts cs ds er)::RR) ss->Calls Tryz.prog 132 #[.pointer (some ⟨gr,0,none⟩)] W fun x w'=>(x=.returned (.int .i64 ((R.length:Int) * 8 - 0)))/\∃ RR',BU gr R 0 rs RR'/\Own w0 w' (g::(gp,PR pt hs ms ts cs ds er)::RR') ss:=by
 rintro W g RR ⟨X,E,v,used,rfl,ht,hB,hl,hj,hu0,hu⟩ hm
 obtain ⟨ad,c,rfl⟩:=ht.shape
 refine (fH gr ad R.length c 0 used true w0 W _ ss hm.bM (by omega) (by omega) (by omega)).mono ?_
 rintro x w' ⟨rfl,hm2⟩
 exact ⟨rfl,_,⟨X,E,_,used,rfl,ht,hB,hl,hj,hu0,hu⟩,hm2.Nh⟩
theorem nO:∀ W g RR,BU gr R j rs RR->Own w0 W (g::(gp,PR pt hs ms ts cs ds er)::RR) ss->Calls Tryz.prog 133 #[.pointer (some ⟨gr,0,none⟩)] W fun x w'=>(x=.returned (.bool true))/\∃ RR',BU gr R j rs RR'/\Own w0 w' (g::(gp,PR pt hs ms ts cs ds er)::RR') ss:=by
 rintro W g RR ⟨X,E,v,used,rfl,ht,hB,hl,hj,hu0,hu⟩ hm
 refine (jS gr v _ used true w0 W _ ss hm.bM).mono ?_
 rintro x w' ⟨rfl,hm2⟩
 exact ⟨rfl,_,⟨X,E,_,used,rfl,ht,hB,hl,hj,hu0,hu⟩,hm2.Nh⟩
theorem A2x {n m p s:Int} (hm:Own w0 w ((gp,PR (PT 5) hs ms ts cs ds er)::RR) ss) (hz:PRz (PT 5) hs ms ts cs ds er) (hp:V4 ⟨.pad n m p s,R,j⟩ 4 hs ms ts cs ds er) (hr:BU gr R j rs RR):Calls Tryz.prog 86 #[.pointer (some ⟨gp,0,none⟩),.pointer (some ⟨gr,0,none⟩)] w (CPo gp gr rs w0 ss ⟨.pad n m p s,R,j⟩):=by
 obtain ⟨_,n1,n2,rfl⟩:=hp
 by_cases h:bU R j=0
 ·have hZ:=(XM R j).2 h
  have CA:=Wi (R:=R) (j:=j) (rs:=rs) (gr:=gr) (w0:=w0) (ss:=ss) (gp:=gp) (pt:=PT 5) (hs:=HS 4 0 0 n) (ms:=ms) (ts:=ts) (cs:=cs) (ds:=ds) (er:=er)
  rw [h] at CA
  refine (bV gp (sZ j) _ _ _ ms ts cs ds er RR w0 w ss hm (BU gr R j rs) (BU gr (R.drop ((j+7) / 8)) 0 rs) hr (Lib.hid CA) hz).mono ?_
  rintro x w' ⟨rfl,RR',hQ,hm⟩
  exact CPo.of (k:=1) (c2:=⟨.mark n .mark,R.drop ((j+7) / 8),0⟩) (o:=some (.U5 m p s)) (by simp [AB,hZ]) rfl hm (by omega) ⟨rfl,rfl,rfl,hz.ts,hz.cs,hz.ds,hz.er⟩ ⟨rfl,rfl,n1,n2,trivial,rfl,rfl⟩ hQ (fun ev h=>by cases h;rfl)
 ·have hZ:¬ zpad R j=true:=fun e=>h ((XM R j).1 e)
  refine (Yj gp (sZ j) (bU R j) _ _ _ ms ts cs ds er RR w0 w ss hm (BU gr R j rs) (BU gr (R.drop ((j+7) / 8)) 0 rs) hr h (Lib.hid Wi) hz).mono ?_
  rintro x w' ⟨rfl,RR',hQ,hm⟩
  exact CPo.bad (by simp [AB,hZ]) hm hz.five hQ
theorem nU (hm:Own w0 w ((gp,PR (PT 6) hs ms ts cs ds er)::RR) ss) (hz:PRz (PT 6) hs ms ts cs ds er) (hp:V4 ⟨.behind,R,j⟩ 5 hs ms ts cs ds er) (hr:BU gr R j rs RR):Calls Tryz.prog 88 #[.pointer (some ⟨gp,0,none⟩),.pointer (some ⟨gr,0,none⟩)] w (CPo gp gr rs w0 ss ⟨.behind,R,j⟩):=by
 obtain ⟨_,hj⟩:=hp
 obtain rfl:j=0:=hj
 by_cases h:0 < R.length
 ·refine (bJ gp ((R.length:Int) * 8 - 0) _ _ _ ms ts cs ds er RR w0 w ss hm (BU gr R 0 rs) (BU gr R 0 rs) hr (by omega) (Lib.hid YT) hz).mono ?_
  rintro x w' ⟨rfl,RR',hQ,hm⟩
  exact CPo.bad (by simp only [AB,if_pos h]) hm hz.five hQ
 ·refine (lJ gp ((R.length:Int) * 8 - 0) _ _ _ ms ts cs ds er RR w0 w ss hm (BU gr R 0 rs) (BU gr R 0 rs) hr (by omega) (Lib.hid YT) (Lib.hid nO) hz).mono ?_
  rintro x w' ⟨rfl,RR',hQ,hm⟩
  exact CPo.of (k:=6) (c2:=⟨.over,R,0⟩) (o:=some .fin) (by simp only [AB,if_neg h]) rfl hm (by omega) ⟨rfl,hz.hs,hz.ms,hz.ts,hz.cs,hz.ds,hz.er⟩ rfl hQ (fun ev h=>by cases h;rfl)
theorem A0D (hm:Own w0 w ((gp,PR (PT 7) hs ms ts cs ds er)::RR) ss) (hz:PRz (PT 7) hs ms ts cs ds er) (hr:BU gr R j rs RR):Calls Tryz.prog 90 #[.pointer (some ⟨gp,0,none⟩),.pointer (some ⟨gr,0,none⟩)] w (CPo gp gr rs w0 ss ⟨.over,R,j⟩):=by
 refine (wL gp _ _ hs ms ts cs ds er RR w0 w ss hm).mono ?_
 rintro x w' ⟨rfl,hm⟩
 exact CPo.of (k:=6) (c2:=⟨.over,R,j⟩) (o:=some .fin) rfl rfl hm (by omega) hz rfl hr (fun ev h=>by cases h;rfl)
theorem A2y {e:Int} (hm:Own w0 w ((gp,PR (PT 8) hs ms ts cs ds er)::RR) ss) (hz:PRz (PT 8) hs ms ts cs ds er) (hp:V4 ⟨.bad e,R,j⟩ 7 hs ms ts cs ds er) (hr:BU gr R j rs RR):Calls Tryz.prog 92 #[.pointer (some ⟨gp,0,none⟩),.pointer (some ⟨gr,0,none⟩)] w (CPo gp gr rs w0 ss ⟨.bad e,R,j⟩):=by
 obtain ⟨_,rfl⟩:=hp
 refine (nI gp e _ _ hs ms ts cs ds RR w0 w ss hm hz).mono ?_
 rintro x w' ⟨rfl,hm⟩
 exact CPo.bad rfl hm hz.five hr
theorem A2z {c:Cf} {k:Nat} (hk:k < 8) (hm:Own w0 w ((gp,PR (PT ((k:Nat)+1)) hs ms ts cs ds er)::RR) ss) (hz:PRz (PT ((k:Nat)+1)) hs ms ts cs ds er) (hp:V4 c k hs ms ts cs ds er) (hr:BU gr c.R c.j rs RR):Calls Tryz.prog (78+2 * k) #[.pointer (some ⟨gp,0,none⟩),.pointer (some ⟨gr,0,none⟩)] w (CPo gp gr rs w0 ss c):=by
 obtain ⟨s,R,j⟩:=c
 cases s with
|head t=>obtain rfl:k=0:=hp.1;exact A0F hm hz hp hr
|mark n t=>obtain rfl:k=1:=hp.1;exact A0E hm hz hp hr
|table n m p s t=>obtain rfl:k=2:=hp.1;exact xq hm hz hp hr
|syms n m p s L q i b=>obtain rfl:k=3:=hp.1;exact A0C hm hz hp hr
|pad n m p s=>obtain rfl:k=4:=hp.1;exact A2x hm hz hp hr
|behind=>obtain rfl:k=5:=hp.1;exact nU hm hz hp hr
|over=>obtain rfl:k=6:=hp;exact A0D hm hz hr
|bad e=>obtain rfl:k=7:=hp.1;exact A2y hm hz hp hr
end
end Go.Proofs.YtkpbhdhkdonghaaGreat

set_option linter.all false
set_option maxRecDepth 10000
namespace Go.Proofs.YtkpbhdhkdonghaaGreat
open Go Go.RowKit
section
variable {n m p s:Int} {R out x:List Int} {b j:Nat}
theorem NJ {c:Cf} (h:(AB c).1=none):G c out x b=G (AB c).2 out x b:=by
 rw [G,h];rfl
theorem OU {c:Cf} {e:Int} (h:(AB c).1=some (.bad e)):G c out x b=(x,b,false):=by
 rw [G,h];rfl
theorem yP:∀ (R:List Int) (t:MT) (j:Nat),G ⟨.mark n t,R,j⟩ out x b=match BO n t R with
 |some (.block m p s,rest)=>G ⟨.table n m p s TT0,rest,0⟩ [] x b
 |some (.tail s,rest)=>if s=crc 0 [x] then G ⟨.behind,rest,0⟩ out x b else (x,b,false)
 |_=>(x,b,false)
|[],t,j=>by rw [OU (e:=50) rfl];rfl
|y::R,t,j=>by
  have ih:=yP R
  cases hr:t.step n y with
 |go t2 =>
   have hc:AB ⟨.mark n t,y::R,j⟩=(none,⟨.mark n t2,R,0⟩):=by simp [AB,hr,MX]
   rw [NJ (by rw [hc]),hc,ih t2 0,BO,hr]
 |block m p s =>
   have hc:AB ⟨.mark n t,y::R,j⟩=(some (.block m p s),⟨.table n m p s TT0,R,0⟩):=by simp [AB,hr,MX]
   rw [G,hc,BO,hr];rfl
 |tail s =>
   have hc:AB ⟨.mark n t,y::R,j⟩=(some (.tail s),⟨.behind,R,0⟩):=by simp [AB,hr,MX]
   rw [G,hc,BO,hr];rfl
 |bad =>
   have hc:AB ⟨.mark n t,y::R,j⟩=(some (.bad 242),⟨.bad 242,R,0⟩):=by simp [AB,hr,MX]
   rw [OU (e:=242) (by rw [hc]),BO,hr]
theorem RF:∀ (R:List Int) (t:MT) (r:MR) (rest:List Int),BO n t R=some (r,rest)->rest.length < R.length
|[],t,r,rest,h=>by cases h
|y::R,t,r,rest,h=>by
  rw [BO] at h
  cases hr:t.step n y with
 |go t2=>rw [hr] at h;have:=RF R t2 r rest h;simp;omega
 |block m p s=>rw [hr] at h;cases h;simp
 |tail s=>rw [hr] at h;cases h;simp
 |bad=>rw [hr] at h;cases h
theorem VW (R:List Int) (j:Nat) (h:j < 8 * R.length):(bitsOf R (8 * R.length)).drop j=AP R j::(bitsOf R (8 * R.length)).drop (j+1):=by
 have hl:j < (bitsOf R (8 * R.length)).length:=by simp [bitsOf];exact h
 rw [List.drop_eq_getElem_cons hl]
 congr 1
 simp [bitsOf]
theorem ZK (R:List Int) (j:Nat) (h:¬ j < 8 * R.length):(bitsOf R (8 * R.length)).drop j=[]:=List.drop_eq_nil_of_le (by simp [bitsOf];omega)
theorem kK:∀ (d:Nat) (t:TT) (j:Nat),j+d=8 * R.length->G ⟨.table n m p s t,R,j⟩ out x b =
  if (Bv t ((bitsOf R (8 * R.length)).drop j) j).2.2=0 then G ⟨.syms n m p s (Bv t ((bitsOf R (8 * R.length)).drop j) j).1 0 0 (dNew m),R,(Bv t ((bitsOf R (8 * R.length)).drop j) j).2.1.toNat⟩ out x b else (x,b,false)
|0,t,j,h=>by
  have hj:¬ j < 8 * R.length:=by omega
  rw [OU (e:=50) (by simp [AB,hj]),ZK R j hj,Bv,if_neg (by decide)]
|d+1,t,j,h=>by
  have hj:j < 8 * R.length:=by omega
  have ih:=kK d
  rw [VW R j hj,Bv]
  by_cases h1:(t.next (AP R j)).2=true
  ·rw [if_pos h1]
   by_cases h2:(t.next (AP R j)).1.s=258
   ·rw [if_pos h2,if_pos rfl]
    have hc:AB ⟨.table n m p s t,R,j⟩=(none,⟨.syms n m p s (t.next (AP R j)).1.l 0 0 (dNew m),R,j+1⟩):=by simp [AB,hj,Oj,h1,h2]
    rw [NJ (by rw [hc]),hc]
    congr 2
   ·rw [if_neg h2]
    have hc:AB ⟨.table n m p s t,R,j⟩=(none,⟨.table n m p s (t.next (AP R j)).1,R,j+1⟩):=by simp [AB,hj,Oj,h1,h2]
    rw [NJ (by rw [hc]),hc,ih _ (j+1) (by omega)]
    rfl
  ·rw [if_neg h1,if_neg (by decide)]
   rw [OU (e:=100) (by simp [AB,hj,Oj,h1])]
theorem Nw:∀ (l:List Int) (t:TT) (i:Int),(Bv t l i).2.2=0->i < (Bv t l i).2.1/\(Bv t l i).2.1<=i+l.length
|[],t,i,h=>by simp [Bv] at h
|y::l,t,i,h=>by
  rw [Bv] at h ⊢
  split at h
  ·rename_i h1
   rw [if_pos h1]
   split at h
   ·rename_i h2
    rw [if_pos h2]
    simp only [List.length_cons]
    omega
   ·rename_i h2
    rw [if_neg h2]
    have:=Nw l _ _ h
    simp only [List.length_cons]
    omega
  ·simp at h
theorem Om (L:List Int):∀ (q:Int) (k:Nat) (b:DS) (l out:List Int) (a:Nat) (last:List Int) (many:Nat),Dt L q k b l out a=some (last,many)->a < many
|q,k,b,[],out,a,last,many,h=>by cases h
|q,k,b,x::r,out,a,last,many,h=>by
  rw [Dt] at h
  split at h
  ·split at h
   ·split at h
    ·cases h;omega
    ·have:=Om L _ _ _ r _ _ last many h;omega
   ·cases h
  ·have:=Om L _ _ _ r _ _ last many h;omega
theorem yO (L:List Int):∀ (d:Nat) (q:Int) (k:Nat) (bs:DS) (j a:Nat) (out:List Int),j+d=8 * R.length->G ⟨.syms n m p s L q k bs,R,j⟩ out x b =
  match Dt L q k bs ((bitsOf R (8 * R.length)).drop j) out a with
 |none=>(x,b,false)
 |some (last,many)=>G ⟨.pad n m p s,R,j+(many - a)⟩ last x b
|0,q,k,bs,j,a,out,h=>by
  have hj:¬ j < 8 * R.length:=by omega
  rw [OU (e:=50) (by simp [AB,hj]),ZK R j hj,Dt]
|d+1,q,k,bs,j,a,out,h=>by
  have hj:j < 8 * R.length:=by omega
  have ih:=yO L d
  rw [VW R j hj,Dt]
  by_cases h1:(pfs L q k (AP R j)).2.2.2=true
  ·rw [if_pos h1]
   have hs:AB ⟨.syms n m p s L q k bs,R,j⟩=MQ n m p s L (pfs L q k (AP R j)).1 (pfs L q k (AP R j)).2.1 (FY bs (pfs L q k (AP R j)).2.2.1) R (j+1):=by
    simp only [AB,if_pos hj,eY,if_pos h1]
   generalize (pfs L q k (AP R j)).1=q2 at *
   generalize (pfs L q k (AP R j)).2.1=k2 at *
   generalize FY bs (pfs L q k (AP R j)).2.2.1=o at *
   by_cases h2:o.2.2.2=0
   ·rw [if_pos h2]
    have hG:G ⟨.syms n m p s L q k bs,R,j⟩ out x b=G ⟨if o.2.2.1 then .pad n m p s else .syms n m p s L q2 k2 o.1,R,j+1⟩ (out++o.2.1) x b:=by
     rw [MQ,if_pos h2] at hs
     by_cases h3:0 < o.2.1.length
     ·rw [if_pos h3] at hs
      rw [G,hs];rfl
     ·rw [if_neg h3] at hs
      have:o.2.1=[]:=List.length_eq_zero_iff.1 (by omega)
      rw [NJ (by rw [hs]),hs,this,List.append_nil]
    rw [hG]
    by_cases h3:o.2.2.1=true
    ·rw [if_pos h3,if_pos h3]
     congr 2
     omega
    ·rw [if_neg h3,if_neg h3,ih q2 k2 o.1 (j+1) (a+1) (out++o.2.1) (by omega)]
     cases hc:Dt L q2 k2 o.1 ((bitsOf R (8 * R.length)).drop (j+1)) (out++o.2.1) (a+1) with
    |none=>rfl
    |some r =>
      have:=Om L _ _ _ _ _ _ _ _ hc
      show G _ _ _ _=G _ _ _ _
      congr 2
      omega
   ·rw [if_neg h2]
    rw [MQ,if_neg h2] at hs
    rw [OU (by rw [hs])]
  ·rw [if_neg h1]
   have hs:AB ⟨.syms n m p s L q k bs,R,j⟩=(none,⟨.syms n m p s L (pfs L q k (AP R j)).1 (pfs L q k (AP R j)).2.1 bs,R,j+1⟩):=by
    simp only [AB,if_pos hj,eY,if_neg h1]
   rw [NJ (by rw [hs]),hs,ih _ _ bs (j+1) (a+1) out (by omega)]
   cases hc:Dt L (pfs L q k (AP R j)).1 (pfs L q k (AP R j)).2.1 bs ((bitsOf R (8 * R.length)).drop (j+1)) out (a+1) with
  |none=>rfl
  |some r =>
    have:=Om L _ _ _ _ _ _ _ _ hc
    show G _ _ _ _=G _ _ _ _
    congr 2
    omega
theorem G_pad:G ⟨.pad n m p s,R,j⟩ out x b=if zpad R j=true then (match chk out p s with
 |none=>(x,b,false)
 |some t=>G ⟨.mark n .mark,R.drop ((j+7) / 8),0⟩ [] (x++t) (b+1)) else (x,b,false):=by
 by_cases h:zpad R j=true
 ·rw [if_pos h]
  have hc:AB ⟨.pad n m p s,R,j⟩=(some (.U5 m p s),⟨.mark n .mark,R.drop ((j+7) / 8),0⟩):=by simp [AB,h]
  rw [G,hc];rfl
 ·rw [if_neg h]
  have hc:AB ⟨.pad n m p s,R,j⟩=(some (.bad 160),⟨.bad 160,R.drop ((j+7) / 8),0⟩):=by simp [AB,h]
  rw [OU (e:=160) (by rw [hc])]
theorem G_blk:G ⟨.table n m p s TT0,R,0⟩ [] x b=match Ik m p s R with
 |none=>(x,b,false)
 |some (t,r2)=>G ⟨.mark n .mark,r2,0⟩ [] (x++t) (b+1):=by
 rw [kK (8 * R.length) TT0 0 (by omega),Ik,List.drop_zero]
 have e0:((0:Nat):Int)=0:=rfl
 rw [e0]
 by_cases h:(Bv TT0 (bitsOf R (8 * R.length)) 0).2.2=0
 ·rw [if_pos h,if_pos h]
  have hl:=Nw _ _ _ h
  have hb:(bitsOf R (8 * R.length)).length=8 * R.length:=by simp [bitsOf]
  rw [hb] at hl
  generalize Bv TT0 (bitsOf R (8 * R.length)) 0=o at *
  rw [yO o.1 (8 * R.length - o.2.1.toNat) 0 0 (dNew m) o.2.1.toNat 0 [] (by omega)]
  cases Dt o.1 0 0 (dNew m) ((bitsOf R (8 * R.length)).drop o.2.1.toNat) [] 0 with
 |none=>rfl
 |some r =>
   show G _ _ _ _=_
   rw [G_pad,Nat.sub_zero]
   by_cases hz:zpad R (o.2.1.toNat+r.2)=true
   ·rw [if_pos hz]
    simp only [hz,if_true]
    cases chk r.1 p s<;>rfl
   ·rw [if_neg hz]
    simp only [hz]
    rfl
 ·rw [if_neg h,if_neg h]
theorem lK {t r2:List Int} (h:Ik m p s R=some (t,r2)):r2.length<=R.length:=by
 unfold Ik at h
 repeat' split at h
 all_goals first|(cases h;done)|(cases h;simp)
theorem A1C:∀ (f:Nat) (left x:List Int) (b:Nat) (out:List Int),left.length < f->G ⟨.mark n .mark,left,0⟩ out x b=IW n f left x b
|0,left,x,b,out,h=>by omega
|f+1,left,x,b,out,h=>by
  rw [yP,IW]
  cases hr:BO n .mark left with
 |none=>rfl
 |some q =>
   obtain ⟨r,rest⟩:=q
   have hl:=RF left _ _ _ hr
   cases r with
  |go t=>rfl
  |bad=>rfl
  |block m p s =>
    show G _ _ _ _=_
    rw [G_blk]
    cases hb:Ik m p s rest with
   |none=>simp only [hb]
   |some q =>
     obtain ⟨t,r2⟩:=q
     have:=lK hb
     simp only [hb]
     exact A1C f r2 (x++t) (b+1) [] (by omega)
  |tail s =>
    show (if _ then _ else _)=(if _ then _ else _)
    by_cases hs:s=crc 0 [x]
    ·rw [if_pos hs,if_pos hs,G]
     by_cases h0:0 < rest.length
     ·simp [AB,h0,H6,Evt.last]
     ·simp [AB,h0,H6,Evt.last]
    ·rw [if_neg hs,if_neg hs]
theorem yQ:∀ (R:List Int) (t:HT) (j:Nat),G ⟨.head t,R,j⟩ out x b=match DI t R with
 |none=>(x,b,false)
 |some (n,left)=>G ⟨.mark n .mark,left,0⟩ out x b
|[],t,j=>by rw [OU (e:=50) rfl];rfl
|y::R,t,j=>by
  have ih:=yQ R
  cases hr:t.step y with
 |go t2 =>
   have hc:AB ⟨.head t,y::R,j⟩=(none,⟨.head t2,R,0⟩):=by simp [AB,hr,Qs]
   rw [NJ (by rw [hc]),hc,ih t2 0,DI,hr]
 |done n =>
   have hc:AB ⟨.head t,y::R,j⟩=(some (.head n),⟨.mark n .mark,R,0⟩):=by simp [AB,hr,Qs]
   rw [G,hc,DI,hr];rfl
 |bad e =>
   have hc:AB ⟨.head t,y::R,j⟩=(some (.bad e),⟨.bad e,R,0⟩):=by simp [AB,hr,Qs]
   rw [OU (e:=e) (by rw [hc]),DI,hr]
end
variable {cs cs' ds ds' er er' hs hs' ms ms' ts':Array Value} {c c2:Cf} {ev:Evt} {a b:Int} {l:List Int} {j:Nat} {f p:Nat × Array Value} {RR:Rws}
inductive Nx:Cf->Evt->Cf->Prop where
|now {c:Cf} {ev:Evt} {c2:Cf} (h:AB c=(some ev,c2)):Nx c ev c2
|later {c:Cf} {ev:Evt} {c2:Cf} (h:(AB c).1=none) (hn:Nx (AB c).2 ev c2):Nx c ev c2
theorem Nx.mu {c c2:Cf} {ev:Evt} (h:Nx c ev c2) (hl:ev.last=false):c2.mu < c.mu:=by
 induction h with
|now h=>have:=Ol _ (by rw [h];exact hl);rwa [h] at this
|later h _ ih=>have:=Ol _ (by rw [h];rfl);have:=ih hl;omega
def Gev (out x:List Int) (b:Nat) (c2:Cf):Evt->List Int × Nat × Bool
|.block _ _ _=>G c2 [] x b
|.bytes t=>G c2 (out++t) x b
|.U5 _ p s=>(match chk out p s with
 |none=>(x,b,false)
 |some t=>G c2 [] (x++t) (b+1))
|.tail s=>if s=crc 0 [x] then G c2 out x b else (x,b,false)
|.head _=>G c2 out x b
|.fin=>(x,b,true)
|.bad _=>(x,b,false)
theorem Nx.read (h:Nx c ev c2) (out x:List Int) (b:Nat):G c out x b=Gev out x b c2 ev:=by
 induction h with
|now h=>rename_i ev c2;rw [G,h];cases ev<;>rfl
|later h _ ih=>rw [NJ h,ih]
theorem PR_k {ts:Array Value} (h:PR (PT a) hs ms ts cs ds er=PR (PT b) hs' ms' ts' cs' ds' er'):a=b:=by
 have h2:(PR (PT a) hs ms ts cs ds er)[0]?=(PR (PT b) hs' ms' ts' cs' ds' er')[0]?:=by rw [h]
 simpa [PR,PT] using h2
section
variable {gp gr:Nat} {rs:Rws} {w0 w w':World} {ss:List Sl}
theorem BU.addf {R:List Int} (hr:BU gr R j rs RR) (hm:Own w0 w (f::p::RR) ss):∃ RR2,BU gr R j (f::rs) RR2/\Own w0 w (p::RR2) ss:=by
 obtain ⟨X,E,v,used,rfl,h⟩:=hr
 rw [<- List.append_assoc] at hm
 have hm:=hm.jA
 rw [List.append_assoc] at hm
 exact ⟨_,⟨X,E,v,used,rfl,h⟩,hm⟩
theorem Rel.outf {R:Rws} (hr:Rel gp gr (f::rs) c R) (hm:Own w0 w R ss):∃ R2,Rel gp gr rs c R2/\Own w0 w (f::R2) ss:=by
 obtain ⟨k,hs,ms,ts,cs,ds,er,RR,rfl,hk,hz,hp,X,E,v,used,rfl,h⟩:=hr
 rw [<- List.append_assoc] at hm
 have hm:=hm.Xj
 rw [List.append_assoc] at hm
 exact ⟨_,⟨k,hs,ms,ts,cs,ds,er,_,rfl,hk,hz,hp,X,E,v,used,rfl,h⟩,hm⟩
theorem zH {R:Rws} (hR:Rel gp gr rs c R) (hm:Own w0 w R ss):Calls Tryz.prog 38 #[.pointer (some ⟨gp,0,none⟩),.pointer (some ⟨gr,0,none⟩)] w fun x w'=>∃ kd n m p s v e ev c2 R',x=.returned (.agg (EVT kd n m p s v e))/\v.oneCell'=true/\Nx c ev c2/\yR ev kd m v/\Rel gp gr rs c2 R'/\Own w0 w' R' ss:=by
 have hR0:=hR
 obtain ⟨k,hs,ms,ts,cs,ds,er,RR,rfl,hk,hz,hp,hr⟩:=hR
 refine (zG gp gr _ hs ms ts cs ds er RR w0 w ss hm (fun n R=>∃ c',(∀ ev c2,Nx c' ev c2->Nx c ev c2)/\n=c'.mu/\Rel gp gr rs c' R) c.mu ⟨c,fun _ _ h=>h,rfl,hR0⟩ ?_ (fun kd _ m _ _ v _ R'=>∃ ev c2,v.oneCell'=true/\Nx c ev c2/\yR ev kd m v/\Rel gp gr rs c2 R') (Lib.hid ?_)).mono ?_
 ·rintro n R ⟨c',_,_,k,hs,ms,ts,cs,ds,er,RR,rfl,hk,hz,_⟩
  exact ⟨k,hs,ms,ts,cs,ds,er,RR,rfl,hk,hz⟩
 ·rintro n k hs ms ts cs ds er RR2 W f ss' hk ⟨c',hN,rfl,k',hs',ms',ts',cs',ds',er',RR',hR,hk',hz',hp',hr'⟩ hm
  rw [hR] at hm
  injection hR with h1 h2
  injection h1 with _ h1
  have hkk:=PR_k h1
  obtain rfl:k=k':=by omega
  clear h1 h2 hkk
  obtain ⟨RR3,hr3,hm3⟩:=hr'.addf hm
  refine (A2z hk hm3 hz' hp' hr3).mono ?_
  rintro x w' ⟨kd,n,m,p,s,v,e,R,rfl,hv,hm4,hR4,hE⟩
  obtain ⟨R2,hR5,hm5⟩:=hR4.outf hm4
  refine ⟨kd,n,m,p,s,v,e,_,R2,rfl,hv,hm5,?_,?_⟩
  ·intro ht
   obtain ⟨ev,he⟩:=Option.isSome_iff_exists.1 ht
   exact ⟨ev,(AB c').2,hv,hN _ _ (Nx.now (by rw [<- he])),hE ev he,hR5⟩
  ·intro ht
   have he:(AB c').1=none:=by simpa using ht
   exact ⟨_,Ol c' (by rw [he];rfl),(AB c').2,fun ev c2 h=>hN _ _ (Nx.later he h),rfl,hR5⟩
 ·rintro x w' ⟨kd,n,m,p,s,v,e,R',rfl,⟨ev,c2,h0,h1,h2,h3⟩,hm⟩
  exact ⟨kd,n,m,p,s,v,e,ev,c2,R',rfl,h0,h1,h2,h3,hm⟩
theorem Rel.inf {R:Rws} (hr:Rel gp gr rs c R) (hm:Own w0 w (f::R) ss):∃ R2,Rel gp gr (f::rs) c R2/\Own w0 w R2 ss:=by
 obtain ⟨k,hs,ms,ts,cs,ds,er,RR,rfl,hk,hz,hp,hr⟩:=hr
 obtain ⟨RR2,hr2,hm2⟩:=hr.addf hm
 exact ⟨_,⟨k,hs,ms,ts,cs,ds,er,RR2,rfl,hk,hz,hp,hr2⟩,hm2⟩
theorem bf {R:Rws} (hR:Rel gp gr rs c R) (hm:Own w0 w (f::R) ss):Calls Tryz.prog 38 #[.pointer (some ⟨gp,0,none⟩),.pointer (some ⟨gr,0,none⟩)] w fun x w'=>∃ kd n m p s v e ev c2 R',x=.returned (.agg (EVT kd n m p s v e))/\v.oneCell'=true/\Nx c ev c2/\yR ev kd m v/\Rel gp gr rs c2 R'/\Own w0 w' (f::R') ss:=by
 obtain ⟨R2,hR2,hm2⟩:=hR.inf hm
 refine (zH hR2 hm2).mono ?_
 rintro x w' ⟨kd,n,m,p,s,v,e,ev,c2,R',rfl,h0,h1,h2,h3,hm3⟩
 obtain ⟨R3,hR3,hm3⟩:=h3.outf hm3
 exact ⟨kd,n,m,p,s,v,e,ev,c2,R3,rfl,h0,h1,h2,hR3,hm3⟩
theorem Rel.start {X:Rws} {v:Value} (ht:Tail X v l) (hB:Bytes l) (hl:l.length<=1000):Rel gp gr rs ⟨.head ⟨0,0,0⟩,l,0⟩ ((gp,PR0)::(gr,RD v 0 0 true)::(X++rs)) :=
 ⟨0,_,_,_,_,_,_,_,rfl,by omega,PR0_z,⟨rfl,rfl,.inl ⟨by decide,by decide,rfl,rfl⟩,rfl,rfl⟩,X,[],v,0,rfl,(by simpa using ht),hB,hl,Nat.zero_le _,by omega,by simp;omega⟩
end
set_option maxHeartbeats 4000000
set_option maxRecDepth 100000
variable {Q:Exit->Act->World->Prop} {T:List Int} {l:List Oper} {ss:List Sl} {id:Nat} {a b c d f:Nat × Array Value} {P:Program} {Y rs:Rws} {w w0:World} {S:World->Prop}
theorem Fq {α:Type} (Y Z R:List α):(Z++(Y++R)).Perm (Y++(Z++R)):=by
 rw [<- List.append_assoc,<- List.append_assoc]
 exact List.Perm.append_right _ List.perm_append_comm
theorem Own.zh {X:Rws} (h:Own w0 w (Y++(a::b::c::d::(X++rs))) ss):Own w0 w (a::b::c::d::(X++(Y++rs))) ss:=h.perm (by
 have e:=Fq Y ([a,b,c,d]++X) rs
 simpa only [s2,List.append_assoc] using e)
theorem Txt.A1s {X:Rws} {v:Value} (h:Txt Y v (vs .u8 T)) (hm:Own w0 w (a::b::c::d::f::(X++(Y++rs))) ss):From 1 w v T.length (vs .u8 T):=by
 have e:=Fq Y ([a,b,c,d,f]++X) rs
 simp only [s2,List.append_assoc] at e
 have h3:=From.tK (h.src (hm.perm e.symm))
 rwa [Ai] at h3
theorem Pg (X E rs:Rws):rs.Sublist (a::b::c::(X++(E++rs))):=((((List.sublist_append_right E rs).trans (List.sublist_append_right X _)).cons c).cons b).cons a
theorem NM {a:Act} (hO:Own w0 w rs ss) (hS:∀ W,Own w0 W rs ss->S W) (k:Nat) (t:KT) (hm:P.follows .mixedOrders=true) (hs:Region.noSelect l.toArray=true) (hlen:t.depth=l.toArray.size)
  (hB:(!(Array.replicate l.toArray.size false).getD k false && okK l.toArray k (Qv l.toArray k) (Array.replicate l.toArray.size false) t)=true) (hQ:∀ c a d v w,Q (.panic c) (a.put d v) w->Q (.panic c) a w)
  (h:∀ w',Own w0 w' rs ss->wpK P l.toArray Q t S a w'):(Code.region id l.toArray true).wp P Q a w :=
 Kv k t S hm hs hlen hB hQ (hS _ (hO.drawn _)) (h _ (hO.drawn _))
theorem Xv (b:DS) (s:Int) (h:(FY b s).2.2.2=0):((FY b s).2.1.length:Int)+(FY b s).1.left=b.left/\0<=(FY b s).1.left/\((FY b s).2.2.1=true->(FY b s).1.left=0):=by
 rw [FY] at h ⊢
 split at h
 ·rename_i h0
  rw [if_pos h0]
  obtain ⟨a1,a2,a3,a4,_⟩:=TL h0.1
  have hr:=jl a3
  split at h
  ·rename_i h1
   rw [if_pos h1]
   rw [G9] at h1 ⊢
   split at h1
   ·rename_i h2
    rw [if_pos h2]
    exact ⟨by simp,a1,fun hf=>by rw [h0.2.1] at hf;cases hf⟩
   ·rename_i h2
    rw [if_neg h2]
    split at h1
    ·rename_i h3
     rw [if_pos h3]
     have h1:=of_decide_eq_true h1
     exact ⟨by simp only;omega,by simp,fun _=>rfl⟩
    ·rename_i h3
     rw [if_neg h3]
     split at h1
     ·cases h1
     ·rename_i h4
      rw [if_neg h4]
      exact ⟨by simp only [List.length_append,List.length_singleton];omega,by simp only;omega,fun hf=>by cases hf⟩
  ·cases h
 ·cases h
theorem V9 (X Y E rs:Rws):rs.Sublist (d::f::a::b::c::(X++(Y++(E++rs)))):=((((((List.sublist_append_right E rs).trans (List.sublist_append_right Y _)).trans (List.sublist_append_right X _)).cons c).cons b).cons a).cons f |>.cons d
theorem Y9 (X Y E rs:Rws):(X++rs).Sublist (d::f::a::b::c::(X++(Y++(E++rs)))):=(((((List.Sublist.append (List.Sublist.refl X) ((List.sublist_append_right E rs).trans (List.sublist_append_right Y _))).cons c).cons b).cons a).cons f).cons d
def kL (w0:World) (o:Option (List Int × Nat)) (rs:Rws) (ss:List Sl) (x:Ending) (w':World):Prop:=match o with
|none=>∃ e,e ≠ 0/\x=.returned (.tuple #[.slice none 0 0,.int .i64 0,.int .i64 e])/\Own w0 w' rs ss
|some (last,many)=>∃ X v,x=.returned (.tuple #[v,.int .i64 many,.int .i64 0])/\Lies 1 X v last.length (vs .u8 last)/\Own w0 w' (X++rs) ss
theorem fA (m:Int) (m1:1<=m) (m2:m<=65536) (L:List Int) (hL:L.length=258) (hLb:Bytes L) (hLk:JL L=true) (v:Value) (l:List Int) (w0 w:World) (rs:Rws) (ss:List Sl) (hm:Own w0 w rs ss) (hv:∀ W,Own w0 W rs ss->In .i64 W v l) (hb:Bin l) (hn:l.length<=10000):Calls Tryz.prog 104 #[.int .i64 m,.agg (J .u8 L),v] w (kL w0 (Dt L 0 0 (dNew m) l [] 0) rs ss):=by
 obtain ⟨ad,cp,rfl,_⟩:=hv w hm
 have HC:Hid (∀ W,Own w0 W rs ss->∀ k,k < l.length->∃ A,ad=some A/\W.cell? (A.add k)=some (.int .i64 (gi l k))):=Lib.hid fun W h k hk=>by
  obtain ⟨ad2,cp2,he,hc⟩:=hv W h
  cases he
  exact hc k hk
 obtain ⟨i3,hE⟩:=nR
 have HE:=Lib.hid hE
 obtain ⟨i4,hE4⟩:=nP
 have HEM:=Lib.hid hE4
 have HB:=Lib.hid hb
 have HL:=Lib.hid hL
 have HP:=Lib.hid (Uk.zero hL hLb hLk)
 have CN:=Lib.hid (fun w=>Yh L hL hLb hLk w)
 have CM:=Lib.hid (fun w=>Zx m w)
 have HV2:=Lib.hid (Xw m1 m2)
 have HV:=HV2
 have HM:Hid ((dNew m).left=m):=Lib.hid (by rw [Oi (by omega) (by omega)])
 clear hE hE4 hb hv hL hLb hLk
 go_enter Tryz.func104,Tryz.ntmps104
 go_wp2_with ((with_reducible refine wb hm ?_;clear hm;intro w g4 hm))
 go_step3
 go_wp2_with (first
  |(with_reducible refine wa 143 hm QA ?_;clear hm;intro w g9 hm)
  |(with_reducible refine wa 147 hm Dc ?_;clear hm;intro w g11 hm)
  |(go_at_call 127;refine cB (CN.out _) hm ?_;clear hm;intro w1 hm)
  |(go_at_call 128;refine cB (CM.out _) hm ?_;clear hm;intro w1 hm)
  |(with_reducible refine wla 139 0 hm ?_ (ht:=(by with_unfolding_all exact F5 HL.out)))
  |(with_reducible refine ws 143 0 hm ?_ (ht:=(by with_unfolding_all exact DT HL.out)) (hs:=(by with_unfolding_all exact Dn HL.out Az)) (h1:=(by with_unfolding_all exact Eb _ _ _));clear hm;intro w hm)
  |(with_reducible refine ws 147 0 hm ?_ (ht:=(by with_unfolding_all exact BJ HV.out.len)) (hs:=(by with_unfolding_all exact BR HV.out.len BF)) (h1:=(by with_unfolding_all exact DN _));clear hm;intro w hm))
 go_step3
 go_wp2
 try simp only [Act.put,s3]
 go_loopw [6,7] (fun u z wr=>∃ (k:Nat) (q:Int) (i:Nat) (b:DS) (out:List Int) (X E:Rws),k<=l.length/\z=.int .i64 k/\Uk L q i/\Vl b.l/\(out.length:Int)+b.left=m/\0<=b.left/\Lies 1 X u out.length (vs .u8 out)/\Dt L 0 0 (dNew m) l [] 0=Dt L q i b (l.drop k) out k/\Own w0 wr ((g11,V b)::(g9,CS L q i)::(g4,J .u8 L)::(X++(E++rs))) ss) (fun _ z _=>l.length - (intOf z).toNat)
 case atStart=>exact ⟨0,0,0,dNew m,[],[],[],by omega,rfl,HP.out,HV.out,by simpa using HM.out,by rw [HM.out];omega,Lies.nil 1,rfl,hm⟩
 case round =>
  clear hm HV HV2
  obtain ⟨k,q,i,b,out,X,E,hk,rfl,hP,hV,hO,hO0,hX,hR,hm⟩:=hrel
  by_cases hlt:k < l.length
  ·obtain ⟨A,rfl,hA0⟩:=HC.out _ (hm.sub (Pg X E rs) (List.Sublist.refl _)) k hlt
   have HA:Hid (∀ W {a b c:Nat × Array Value},Own w0 W (a::b::c::(X++(E++rs))) ss->W.cell? (A.add k)=some (.int .i64 (gi l k))):=Lib.hid fun W a b c h=>by
    obtain ⟨A2,he,h2⟩:=HC.out _ (h.sub (Pg X E rs) (List.Sublist.refl _)) k hlt
    cases he
    exact h2
   have hs:=HB.out.gi k hlt
   rw [List.drop_eq_getElem_cons hlt,<- BZ l k hlt,Dt] at hR
   have CF:=Lib.hid (fun w=>RP L q (gi l k) i hP hs.1 hs.2 w)
   have HP2:=Lib.hid (hP.next hs.1 hs.2)
   have CE:=Lib.hid (fun w=>VJ b (pfs L q i (gi l k)).2.2.1 w hV.len hV.bytes)
   have HV:=Lib.hid hV
   have HV2:=Lib.hid (Xu hV (pfs L q i (gi l k)).2.2.1)
   have hT:=ZB b (pfs L q i (gi l k)).2.2.1
   have HD:=Lib.hid (Xv b (pfs L q i (gi l k)).2.2.1)
   have HX:=Lib.hid hX
   obtain ⟨ad3,c3,rfl⟩:=hX.shape
   have w3:IntKind.i64.wrap ((k:Int)+1)=((k+1:Nat):Int):=by rw [IntWalk.i64_in _ (by omega)];push_cast;rfl
   clear hA0 hs hP hV hX
   generalize gi l k=x at *
   generalize pfs L q i x=f at *
   obtain ⟨q2,i2,sy,dn⟩:=f
   generalize FY b sy=d at *
   obtain ⟨d1,T,fin,e⟩:=d
   go_upto_region 4 with fail
   refine rO hm 14 (.rds [(0,true),(1,false),(2,false),(3,false),(4,true)] (.two 5 (.rds [(6,false),(7,false),(8,false),(9,false)] (.one 10 (.one 11 (.rds [(12,false),(13,false)] .done)))) 10 (.one 5 (.rds [(6,false),(7,false),(8,false),(9,false)] (.one 11 (.rds [(12,false),(13,false)] .done)))))) ?_
   clear hm
   intro w hm
   simp only [KT.rds]
   refine km (fun W hm=>lda 1 hm rfl rfl rfl (DT HL.out)) ?_
   iterate 2 refine kq ?_
   (refine K_p rfl rfl (fun W=>Am rfl HE.out rfl rfl rfl hlt) ?_)
   try simp only [Act.put,s3]
   refine km (fun W hm=>AU rfl rfl BG (HA.out _ hm)) ?_
   refine au ?_ ?_
   ·refine DJ rfl rfl (fun K hK=>?_)
    go_simp
    refine (CF.out _).mono ?_
    rintro e w1 ⟨rfl,hb⟩
    replace hm:=hm.call hb
    clear hb
    refine hK _ _ ⟨fun W=>Own _ W _ _,fun _ h=>h,(by exact hm),?_⟩
    clear hK K
    try simp only [Act.put,s3]
    iterate 4 refine kq ?_
    (refine Bo rfl rfl (Dl hm rfl QA ?_))
    clear hm
    intro w g12 hm
    refine ⟨fun W=>Own _ W _ _,fun _ h=>h,hm.dropRow,?_⟩
    try simp only [Act.put,s3]
    (refine Bo rfl rfl (Aw 0 hm rfl rfl (Ac rfl) rfl (DT HL.out) (Dn HL.out Az) (Eb _ _ _) ?_))
    clear hm
    intro w hm
    try simp only [puts,s2,List.set,List.eraseIdx,s3] at hm
    refine ⟨fun W=>Own _ W _ _,fun _ h=>h,hm.dropRow,?_⟩
    try simp only [Act.put,s3]
    iterate 2 refine kq ?_
    refine Ba ?_
    go_simp
    cases dn with
   |false =>
     have HR:Hid (Dt L 0 0 (dNew m) l [] 0=Dt L q2 i2 b (l.drop (k+1)) out (k+1)):=Lib.hid (by rw [hR];simp)
     clear hR CE HV2 hT HD
     go_wp2_with (first
      |(with_reducible refine wla 143 0 hm ?_ (ht:=(by with_unfolding_all exact DT HL.out)))
      |(with_reducible refine ws 143 2 hm ?_ (ht:=(by with_unfolding_all exact DT HL.out)) (hs:=(by with_unfolding_all exact Dn HL.out HL.out)) (h1:=(by with_unfolding_all exact Eb _ _ _));clear hm;intro w hm))
     go_roundw
     case rel=>exact ⟨k+1,q2,i2,b,out,X,E,by omega,by go_num,HP2.out,HV.out,hO,hO0,HX.out,HR.out,hm.dropRow⟩
     case measure=>simp [intOf];omega
   |true =>
     by_cases he:e=0
     ·subst he
      have HR:Hid (Dt L 0 0 (dNew m) l [] 0=if fin=true then some (out++T,k+1) else Dt L q2 i2 d1 (l.drop (k+1)) (out++T) (k+1)):=Lib.hid (by rw [hR];simp)
      obtain ⟨hd1,hd2,hd3⟩:=HD.out rfl
      simp only at hd1 hd2 hd3
      have HD3:=Lib.hid hd3
      clear hR HD hd3
      go_upto_region 10 with (first
       |(with_reducible refine wla 143 0 hm ?_ (ht:=(by with_unfolding_all exact DT HL.out)))
       |(with_reducible refine ws 143 2 hm ?_ (ht:=(by with_unfolding_all exact DT HL.out)) (hs:=(by with_unfolding_all exact Dn HL.out HL.out)) (h1:=(by with_unfolding_all exact Eb _ _ _));clear hm;intro w hm)
       |(go_at_call 130;have _t:=hm;refine (CE.out _).mono ?_;clear _t;rintro x w1 ⟨⟨v2,rfl,hs⟩,hb⟩;obtain ⟨ad2,cc2,rfl⟩:=hs.shape;obtain ⟨Y,hY,hm'⟩:=hm.Ox hb hs;clear hm hs hb;have hm:=hm'.zh;clear hm';have HY:=Lib.hid hY;clear hY)
       |(with_reducible refine wa 147 hm Dc ?_;clear hm;intro w g15 hm)
       |(with_reducible refine wla 147 1 hm ?_ (ht:=(by with_unfolding_all exact BJ HV.out.len)))
       |(with_reducible refine ws 147 0 hm ?_ (ht:=(by with_unfolding_all exact BJ HV2.out.len)) (hs:=(by with_unfolding_all exact BR HV2.out.len BF)) (h1:=(by with_unfolding_all exact DN _));clear hm;intro w hm))
      refine NM (S:=fun W=>AA W g15 (V d1)) hm (fun W h=>h.row 0 rfl) 4 (.rds [(0,true),(1,false),(2,false)] (.one 3 (.brk 4 6 (.rds [(5,false)] .done)))) rfl (by kernel_rfl) rfl (by kernel_rfl) (fun _ _ d _ _ h=>by cases d<;>exact h) ?_
      clear hm
      intro w hm
      simp only [KT.rds]
      refine km (fun W hm=>Du rfl rfl hm (BJ HV2.out.len)) ?_
      iterate 2 refine kq ?_
      refine Bo rfl rfl (GR (A:=[_,_,_,_,_]) (X:=X) hm rfl HEM.out (Ac rfl) HX.out (Ac rfl) (fun W h=>HY.out.A1s h) (Ic _ _) (by omega) (by omega) (by omega) ?_)
      clear hm
      intro X2 v3 w hX2 hm
      simp only [s2] at hm
      obtain ⟨ad4,c4,rfl⟩:=hX2.shape
      have HX2:=Lib.hid hX2
      clear hX2
      refine ⟨fun W=>AA W g15 (V d1),fun W h=>h,hm.row 0 rfl,?_⟩
      try simp only [Act.put,s3]
      (refine Em rfl rfl (Aw 2 hm rfl rfl (Ac rfl) rfl (BJ HV2.out.len) (BR HV2.out.len HV.out.len) (DN _) ?_))
      clear hm
      intro w hm
      try simp only [puts,s2,List.set,List.eraseIdx,s3] at hm
      refine ⟨fun W=>Own _ W _ _,hm,?_⟩
      try simp only [Act.put,s3]
      refine kq ?_
      refine Ba ?_
      go_simp
      have HXX:Hid (Lies 1 X2 (.slice ad4 (out.length+T.length) c4) (out++T).length (vs .u8 (out++T))):=Lib.hid (by rw [P7,List.length_append];exact HX2.out)
      cases fin with
     |true =>
       have HR2:Hid (Dt L 0 0 (dNew m) l [] 0=some (out++T,k+1)):=Lib.hid (by rw [HR.out,if_pos rfl])
       clear HR
       go_wp2
       refine bodyPost_ret (results_tmp3 rfl _ _ _) rfl ?_
       rw [HR2.out]
       exact ⟨X2,_,rfl,HXX.out,hm.sub (Y9 X2 Y E rs) (List.Sublist.refl _)⟩
     |false =>
       have HR2:Hid (Dt L 0 0 (dNew m) l [] 0=Dt L q2 i2 d1 (l.drop (k+1)) (out++T) (k+1)):=Lib.hid (by rw [HR.out,if_neg (by simp)])
       clear HR
       go_wp2
       go_roundw
       case rel=>exact ⟨k+1,q2,i2,d1,out++T,X2,Y++E,by omega,by go_num,HP2.out,HV2.out,by rw [List.length_append];push_cast;omega,hd2,HXX.out,HR2.out,by rw [List.append_assoc];exact hm.dropRow.dropRow⟩
       case measure=>simp [intOf];omega
     ·have HR:Hid (Dt L 0 0 (dNew m) l [] 0=none):=Lib.hid (by rw [hR];simp [he])
      have q1:(e != 0)=true:=by simpa using he
      have HE0:=Lib.hid he
      clear hR he
      go_wp2_with (first
       |(with_reducible refine wla 143 0 hm ?_ (ht:=(by with_unfolding_all exact DT HL.out)))
       |(with_reducible refine ws 143 2 hm ?_ (ht:=(by with_unfolding_all exact DT HL.out)) (hs:=(by with_unfolding_all exact Dn HL.out HL.out)) (h1:=(by with_unfolding_all exact Eb _ _ _));clear hm;intro w hm)
       |(go_at_call 130;have _t:=hm;refine (CE.out _).mono ?_;clear _t;rintro x w1 ⟨⟨v2,rfl,hs⟩,hb⟩;obtain ⟨ad2,cc2,rfl⟩:=hs.shape;obtain ⟨Y,hY,hm'⟩:=hm.Ox hb hs;clear hm hs hb;have hm:=hm'.zh;clear hm';have HY:=Lib.hid hY;clear hY)
       |(with_reducible refine wa 147 hm Dc ?_;clear hm;intro w g15 hm)
       |(with_reducible refine wla 147 1 hm ?_ (ht:=(by with_unfolding_all exact BJ HV.out.len)))
       |(with_reducible refine ws 147 0 hm ?_ (ht:=(by with_unfolding_all exact BJ HV2.out.len)) (hs:=(by with_unfolding_all exact BR HV2.out.len BF)) (h1:=(by with_unfolding_all exact DN _));clear hm;intro w hm))
      try rw [Exit.noGoto_ret]
      refine bodyPost_ret (results_tmp3 rfl _ _ _) rfl ?_
      rw [HR.out]
      exact ⟨e,HE0.out,rfl,hm.sub (V9 X Y E rs) (List.Sublist.refl _)⟩
   ·(refine Bo rfl rfl (Dl hm rfl QA ?_))
    clear hm
    intro w g12 hm
    refine ⟨fun W=>Own _ W _ _,fun _ h=>h,hm.dropRow,?_⟩
    try simp only [Act.put,s3]
    refine DJ rfl rfl (fun K hK=>?_)
    go_simp
    refine (CF.out _).mono ?_
    rintro e w1 ⟨rfl,hb⟩
    replace hm:=hm.call hb
    clear hb
    refine hK _ _ ⟨fun W=>Own _ W _ _,fun _ h=>h,(by exact hm.dropRow),?_⟩
    clear hK K
    try simp only [Act.put,s3]
    iterate 4 refine kq ?_
    (refine Bo rfl rfl (Aw 0 hm rfl rfl (Ac rfl) rfl (DT HL.out) (Dn HL.out Az) (Eb _ _ _) ?_))
    clear hm
    intro w hm
    try simp only [puts,s2,List.set,List.eraseIdx,s3] at hm
    refine ⟨fun W=>Own _ W _ _,fun _ h=>h,hm.dropRow,?_⟩
    try simp only [Act.put,s3]
    iterate 2 refine kq ?_
    refine Ba ?_
    go_simp
    cases dn with
   |false =>
     have HR:Hid (Dt L 0 0 (dNew m) l [] 0=Dt L q2 i2 b (l.drop (k+1)) out (k+1)):=Lib.hid (by rw [hR];simp)
     clear hR CE HV2 hT HD
     go_wp2_with (first
      |(with_reducible refine wla 143 0 hm ?_ (ht:=(by with_unfolding_all exact DT HL.out)))
      |(with_reducible refine ws 143 2 hm ?_ (ht:=(by with_unfolding_all exact DT HL.out)) (hs:=(by with_unfolding_all exact Dn HL.out HL.out)) (h1:=(by with_unfolding_all exact Eb _ _ _));clear hm;intro w hm))
     go_roundw
     case rel=>exact ⟨k+1,q2,i2,b,out,X,E,by omega,by go_num,HP2.out,HV.out,hO,hO0,HX.out,HR.out,hm.dropRow⟩
     case measure=>simp [intOf];omega
   |true =>
     by_cases he:e=0
     ·subst he
      have HR:Hid (Dt L 0 0 (dNew m) l [] 0=if fin=true then some (out++T,k+1) else Dt L q2 i2 d1 (l.drop (k+1)) (out++T) (k+1)):=Lib.hid (by rw [hR];simp)
      obtain ⟨hd1,hd2,hd3⟩:=HD.out rfl
      simp only at hd1 hd2 hd3
      have HD3:=Lib.hid hd3
      clear hR HD hd3
      go_upto_region 10 with (first
       |(with_reducible refine wla 143 0 hm ?_ (ht:=(by with_unfolding_all exact DT HL.out)))
       |(with_reducible refine ws 143 2 hm ?_ (ht:=(by with_unfolding_all exact DT HL.out)) (hs:=(by with_unfolding_all exact Dn HL.out HL.out)) (h1:=(by with_unfolding_all exact Eb _ _ _));clear hm;intro w hm)
       |(go_at_call 130;have _t:=hm;refine (CE.out _).mono ?_;clear _t;rintro x w1 ⟨⟨v2,rfl,hs⟩,hb⟩;obtain ⟨ad2,cc2,rfl⟩:=hs.shape;obtain ⟨Y,hY,hm'⟩:=hm.Ox hb hs;clear hm hs hb;have hm:=hm'.zh;clear hm';have HY:=Lib.hid hY;clear hY)
       |(with_reducible refine wa 147 hm Dc ?_;clear hm;intro w g15 hm)
       |(with_reducible refine wla 147 1 hm ?_ (ht:=(by with_unfolding_all exact BJ HV.out.len)))
       |(with_reducible refine ws 147 0 hm ?_ (ht:=(by with_unfolding_all exact BJ HV2.out.len)) (hs:=(by with_unfolding_all exact BR HV2.out.len BF)) (h1:=(by with_unfolding_all exact DN _));clear hm;intro w hm))
      refine NM (S:=fun W=>AA W g15 (V d1)) hm (fun W h=>h.row 0 rfl) 4 (.rds [(0,true),(1,false),(2,false)] (.one 3 (.brk 4 6 (.rds [(5,false)] .done)))) rfl (by kernel_rfl) rfl (by kernel_rfl) (fun _ _ d _ _ h=>by cases d<;>exact h) ?_
      clear hm
      intro w hm
      simp only [KT.rds]
      refine km (fun W hm=>Du rfl rfl hm (BJ HV2.out.len)) ?_
      iterate 2 refine kq ?_
      refine Bo rfl rfl (GR (A:=[_,_,_,_,_]) (X:=X) hm rfl HEM.out (Ac rfl) HX.out (Ac rfl) (fun W h=>HY.out.A1s h) (Ic _ _) (by omega) (by omega) (by omega) ?_)
      clear hm
      intro X2 v3 w hX2 hm
      simp only [s2] at hm
      obtain ⟨ad4,c4,rfl⟩:=hX2.shape
      have HX2:=Lib.hid hX2
      clear hX2
      refine ⟨fun W=>AA W g15 (V d1),fun W h=>h,hm.row 0 rfl,?_⟩
      try simp only [Act.put,s3]
      (refine Em rfl rfl (Aw 2 hm rfl rfl (Ac rfl) rfl (BJ HV2.out.len) (BR HV2.out.len HV.out.len) (DN _) ?_))
      clear hm
      intro w hm
      try simp only [puts,s2,List.set,List.eraseIdx,s3] at hm
      refine ⟨fun W=>Own _ W _ _,hm,?_⟩
      try simp only [Act.put,s3]
      refine kq ?_
      refine Ba ?_
      go_simp
      have HXX:Hid (Lies 1 X2 (.slice ad4 (out.length+T.length) c4) (out++T).length (vs .u8 (out++T))):=Lib.hid (by rw [P7,List.length_append];exact HX2.out)
      cases fin with
     |true =>
       have HR2:Hid (Dt L 0 0 (dNew m) l [] 0=some (out++T,k+1)):=Lib.hid (by rw [HR.out,if_pos rfl])
       clear HR
       go_wp2
       refine bodyPost_ret (results_tmp3 rfl _ _ _) rfl ?_
       rw [HR2.out]
       exact ⟨X2,_,rfl,HXX.out,hm.sub (Y9 X2 Y E rs) (List.Sublist.refl _)⟩
     |false =>
       have HR2:Hid (Dt L 0 0 (dNew m) l [] 0=Dt L q2 i2 d1 (l.drop (k+1)) (out++T) (k+1)):=Lib.hid (by rw [HR.out,if_neg (by simp)])
       clear HR
       go_wp2
       go_roundw
       case rel=>exact ⟨k+1,q2,i2,d1,out++T,X2,Y++E,by omega,by go_num,HP2.out,HV2.out,by rw [List.length_append];push_cast;omega,hd2,HXX.out,HR2.out,by rw [List.append_assoc];exact hm.dropRow.dropRow⟩
       case measure=>simp [intOf];omega
     ·have HR:Hid (Dt L 0 0 (dNew m) l [] 0=none):=Lib.hid (by rw [hR];simp [he])
      have q1:(e != 0)=true:=by simpa using he
      have HE0:=Lib.hid he
      clear hR he
      go_wp2_with (first
       |(with_reducible refine wla 143 0 hm ?_ (ht:=(by with_unfolding_all exact DT HL.out)))
       |(with_reducible refine ws 143 2 hm ?_ (ht:=(by with_unfolding_all exact DT HL.out)) (hs:=(by with_unfolding_all exact Dn HL.out HL.out)) (h1:=(by with_unfolding_all exact Eb _ _ _));clear hm;intro w hm)
       |(go_at_call 130;have _t:=hm;refine (CE.out _).mono ?_;clear _t;rintro x w1 ⟨⟨v2,rfl,hs⟩,hb⟩;obtain ⟨ad2,cc2,rfl⟩:=hs.shape;obtain ⟨Y,hY,hm'⟩:=hm.Ox hb hs;clear hm hs hb;have hm:=hm'.zh;clear hm';have HY:=Lib.hid hY;clear hY)
       |(with_reducible refine wa 147 hm Dc ?_;clear hm;intro w g15 hm)
       |(with_reducible refine wla 147 1 hm ?_ (ht:=(by with_unfolding_all exact BJ HV.out.len)))
       |(with_reducible refine ws 147 0 hm ?_ (ht:=(by with_unfolding_all exact BJ HV2.out.len)) (hs:=(by with_unfolding_all exact BR HV2.out.len BF)) (h1:=(by with_unfolding_all exact DN _));clear hm;intro w hm))
      try rw [Exit.noGoto_ret]
      refine bodyPost_ret (results_tmp3 rfl _ _ _) rfl ?_
      rw [HR.out]
      exact ⟨e,HE0.out,rfl,hm.sub (V9 X Y E rs) (List.Sublist.refl _)⟩
  ·obtain rfl:l.length=k:=by omega
   rw [List.drop_length,Dt] at hR
   have HRR:=Lib.hid hR
   clear hR
   go_wp2
   try rw [Exit.noGoto_ret]
   refine bodyPost_ret (results_tmp3 rfl _ _ _) rfl ?_
   rw [HRR.out]
   exact ⟨50,by decide,rfl,hm.sub (Pg X E rs) (List.Sublist.refl _)⟩
set_option maxHeartbeats 2000000
set_option maxRecDepth 100000
variable {A:Addr} {n:Int} {l:List Int} {ss:List Sl} {k:Nat} {a b c:Nat × Array Value} {o:Oper} {x:Operand} {rs:Rws} {W w w0:World}
theorem qg (w:World):(zeroValue 80).run Tryz.prog w=.ok (.agg #[.int .i64 0]) w:=by kernel_rfl
theorem A0S (n:Int):Aq Tryz.prog 80 (#[.int .i64 n]:Array Value).size:=ag rfl
theorem one80 (n:Int):∀ v ∈ (#[.int .i64 n]:Array Value),v.oneCell'=true:=Dp (cs:=[.int .i64 n]) rfl
theorem Xn {a:Act} (ho:o.op=.build 80 #[(0,x)]) (hx:a.eval x=.int .i64 n):(execOp a.eval o).run Tryz.prog w=.ok (.value (.agg #[.int .i64 n])) w :=
 Dq ho (by simp only [List.map_toArray,List.map_cons,List.map_nil,hx];kernel_rfl)
theorem In.from {c:Nat} (h:In .u8 W (.slice (some A) l.length c) l) (hk:k<=l.length) (hc:l.length<=c):Src W (.slice (D8 (some A) c k) (l.length - k) (c - k)) (vs .u8 (l.drop k)):=by
 obtain ⟨ad2,c2,he,hl⟩:=h
 cases he
 by_cases e:c=k
 ·subst e
  have:l.drop c=[]:=List.drop_eq_nil_of_le hc
  rw [this,D8,if_pos rfl]
  refine .inr ⟨A,c - c,?_,fun j u hj=>by cases hj⟩
  rw [show l.length - c=0 by omega];rfl
 ·rw [D8,if_neg e]
  refine .inr ⟨A.add k,c - k,by simp [Ai],fun j u hj=>?_⟩
  have hlt:=(List.getElem?_eq_some_iff.1 hj).1
  rw [Ai,List.length_drop] at hlt
  obtain ⟨A2,h2,h3⟩:=hl (k+j) (by omega)
  cases h2
  rw [Fg _ _ j (by simpa using hlt)] at hj
  cases hj
  have e2:(A.add k).add j=A.add (k+j):=by
   by_cases h1:k=0<;>by_cases h2:j=0<;>simp [Addr.add,h1,h2,Nat.add_assoc]
  rw [e2,h3]
  simp [gi]
theorem Own.unX3 {X:Rws} (h:Own w0 w (X++(a::b::c::rs)) ss):Own w0 w (a::b::c::(X++rs)) ss:=h.perm (by
 have e:(X++([a,b,c]++rs)).Perm ([a,b,c]++(X++rs)):=by
  rw [<- List.append_assoc,<- List.append_assoc]
  exact List.Perm.append_right _ List.perm_append_comm
 exact e.symm)
theorem Own.delX3 {X:Rws} (h:Own w0 w (a::b::c::(X++rs)) ss):Own w0 w (a::b::c::rs) ss:=h.sub (List.Sublist.cons_cons _ (List.Sublist.cons_cons _ (List.Sublist.cons_cons _ (List.sublist_append_right X rs)))) (List.Sublist.refl _)
def yM (w0:World) (o:Option (Int × List Int)) (rs:Rws) (ss:List Sl) (x:Ending) (w':World):Prop:=match o with
|none=>∃ e,e ≠ 0/\x=.returned (.tuple #[.agg #[.int .i64 0],.slice none 0 0,.int .i64 e])/\Own w0 w' rs ss
|some (n,R)=>∃ X v,x=.returned (.tuple #[.agg #[.int .i64 n],v,.int .i64 0])/\Lies 1 X v R.length (vs .u8 R)/\Own w0 w' (X++rs) ss
theorem nC (v:Value) (l:List Int) (w0 w:World) (rs:Rws) (ss:List Sl) (hm:Own w0 w rs ss) (hv:∀ W,Own w0 W rs ss->InC .u8 W v l) (hb:Bytes l) (hn:l.length<=1000):Calls Tryz.prog 45 #[v] w (yM w0 (DI ⟨0,0,0⟩ l) rs ss):=by
 obtain ⟨ad,cp,rfl,hlc,_⟩:=hv w hm
 have HI:Hid (∀ W,Own w0 W rs ss->In .u8 W (.slice ad l.length cp) l):=Lib.hid fun W h=>(hv W h).zu
 have HC:Hid (∀ W,Own w0 W rs ss->∀ k,k < l.length->∃ A,ad=some A/\W.cell? (A.add k)=some (.int .u8 (gi l k))):=Lib.hid fun W h k hk=>by
  obtain ⟨ad2,cp2,he,hc⟩:=HI.out W h
  cases he
  exact hc k hk
 obtain ⟨i3,hE⟩:=Md
 have HE:=Lib.hid hE
 have HB:=Lib.hid hb
 clear hE hb hv
 go_enter Tryz.func45,Tryz.ntmps45
 go_wp2_with (first
 |(with_reducible refine wa 80 hm qg ?_;clear hm;intro w g2 hm)
 |(with_reducible refine wa 137 hm Nc ?_;clear hm;intro w g5 hm))
 go_loopw [13] (fun u wr=>∃ (k:Nat) (t:HT),k<=l.length/\u=.int .i64 k/\t.ok/\DI ⟨0,0,0⟩ l=DI t (l.drop k)/\Own w0 wr ((g5,t.v)::(g2,#[.int .i64 0])::rs) ss) (fun u _=>l.length - (intOf u).toNat)
 case atStart=>exact ⟨0,⟨0,0,0⟩,by omega,rfl,.inl ⟨by decide,by decide,rfl,rfl⟩,rfl,hm⟩
 case round =>
  clear hm
  obtain ⟨k,t,hk,rfl,ht,hR,hm⟩:=hrel
  by_cases hlt:k < l.length
  ·obtain ⟨A,rfl,hA0⟩:=HC.out _ hm.dropRow.dropRow k hlt
   have HA:Hid (∀ W (a b:Nat × Array Value),Own w0 W (a::b::rs) ss->W.cell? (A.add k)=some (.int .u8 (gi l k))):=Lib.hid fun W a b h=>by
    obtain ⟨A2,he,h2⟩:=HC.out _ h.dropRow.dropRow k hlt
    cases he
    exact h2
   have CC:Hid (∀ W (a b c:Nat × Array Value),Own w0 W (a::b::c::rs) ss->Calls Tryz.prog 99 #[.slice (D8 (some A) cp (k+1)) (l.length - (k+1)) (cp - (k+1))] W fun x w'=>∃ X v,x=.returned v/\Lies 1 X v (l.drop (k+1)).length (vs .u8 (l.drop (k+1)))/\Own w0 w' (a::b::c::(X++rs)) ss):=Lib.hid fun W a b c h=>by
    refine (clone_any _ (l.drop (k+1)) W (In.from (HI.out _ h.dropRow.dropRow.dropRow) (by omega) hlc) (by simp;omega)).mono fun x w' hx=>?_
    obtain ⟨X,v,rfl,hX,hm⟩:=h.ofB hx
    exact ⟨X,v,rfl,hX,hm.unX3⟩
   have hs:=HB.out (gi l k) (by rw [BZ l k hlt];exact List.getElem_mem _)
   have hk1:k+1<=l.length:=hlt
   rw [List.drop_eq_getElem_cons hlt,<- BZ l k hlt,DI] at hR
   have CN:=Lib.hid (fun w=>VA t ht (gi l k) hs.1 (by omega) w)
   have hok:=HT.step_ok ht hs.1 (show gi l k<=255 by omega)
   have HR:=Lib.hid hR
   clear hA0 hR hs
   generalize gi l k=x at *
   generalize t.step x=r at *
   obtain ⟨a,V,M⟩:=t
   simp only [HT.v] at hm
   cases r with
  |go t2 =>
    have hR:=HR.out
    clear HR CC
    obtain ⟨a2,V2,M2⟩:=t2
    have HN:Hid (DI ⟨0,0,0⟩ l=DI ⟨a2,V2,M2⟩ (l.drop (k+1))/\HT.ok ⟨a2,V2,M2⟩):=Lib.hid ⟨hR,hok⟩
    clear hR hok ht
    simp only [HR.val,HT.v] at CN
    go_wp2_with (first
     |(with_reducible refine wa 137 hm Nc ?_;clear hm;intro w g8 hm)
     |(go_at_call 98;refine cB (CN.out _) hm ?_;clear hm;intro w1 hm)
     |(with_reducible refine gIa (t:=22) ?_;(refine A8 rfl (Am rfl HE.out rfl rfl rfl hlt) ?_))
     |(with_reducible refine gLd (t:=5) ?_;(refine A8 rfl (AU rfl rfl FV (HA.out _ _ _ hm)) ?_))
     |(with_reducible refine wla 137 0 hm ?_)
     |(with_reducible (first|refine ws 137 0 hm ?_|refine ws 137 1 hm ?_);clear hm;intro w hm)
      )
    go_roundw
    case rel=>exact ⟨k+1,⟨a2,V2,M2⟩,by omega,by go_num,HN.out.2,HN.out.1,hm.dropRow⟩
    case measure=>simp [intOf];omega
  |done n =>
    have HN:Hid (DI ⟨0,0,0⟩ l=some (n,l.drop (k+1))):=HR
    clear HR hok ht
    simp only [HR.val,HT.v] at CN
    go_upto_region 9 with (first
     |(with_reducible refine wa 137 hm Nc ?_;clear hm;intro w g8 hm)
     |(go_at_call 98;refine cB (CN.out _) hm ?_;clear hm;intro w1 hm)
     |(with_reducible refine gIa (t:=22) ?_;(refine A8 rfl (Am rfl HE.out rfl rfl rfl hlt) ?_))
     |(with_reducible refine gLd (t:=5) ?_;(refine A8 rfl (AU rfl rfl FV (HA.out _ _ _ hm)) ?_))
     |(with_reducible refine wla 137 0 hm ?_)
     |(with_reducible refine ws 137 0 hm ?_;clear hm;intro w hm)
      )
    refine rO hm 8 (.rds [(0,false),(1,true),(2,false),(3,false),(4,false),(5,false),(6,false)] (.one 7 (.brk 8 11 (.rds [(9,false),(10,false)] .done)))) ?_
    clear hm
    intro w hm
    simp only [KT.rds]
    refine kq ?_
    refine km (fun W hm=>ld 0 hm rfl rfl rfl (ot rfl) rfl) ?_
    (refine K_p rfl rfl (fun W=>Xn rfl rfl) ?_)
    try simp only [Act.put,s3]
    iterate 2 refine kq ?_
    (refine K_p rfl rfl (fun W=>by go_simp;((rw [IntWalk.i64_in _ (by omega)];done))) ?_)
    try simp only [Act.put,s3]
    (refine K_p rfl rfl (fun W=>CY (l:=k+1) (h:=l.length) rfl HE.out rfl (.inr ⟨_,rfl⟩) (.inl ⟨rfl,rfl⟩) hk1 hlc) ?_)
    try simp only [Act.put,s3]
    refine DJ rfl rfl (fun K hK=>?_)
    go_simp
    refine (CC.out _ _ _ _ hm).mono ?_
    rintro e w1 ⟨X,v2,rfl,hX,hm⟩
    refine hK _ _ ⟨fun W=>Own _ W _ _,fun _ h=>h.delX3,hm,?_⟩
    clear hK K
    (refine Em rfl rfl (Aw 2 hm rfl rfl (Ac rfl) rfl (A0S _) rfl (one80 _) ?_))
    clear hm
    intro w hm
    try simp only [puts,s2,List.set,List.eraseIdx,s3] at hm
    refine ⟨fun W=>Own _ W _ _,hm,?_⟩
    try simp only [Act.put,s3]
    iterate 2 refine kq ?_
    refine Ba ?_
    go_simp
    go_wp2
    refine bodyPost_ret (Ae rfl rfl (hm.row 2 rfl) (A0S _)) rfl ?_
    rw [HN.out]
    exact ⟨X,v2,rfl,hX,hm.dropRow.dropRow.dropRow⟩
  |bad e =>
    have HN:Hid (DI ⟨0,0,0⟩ l=none/\e ≠ 0):=Lib.hid ⟨HR.out,by rcases hok with h|h|h<;>omega⟩
    have q1:(e != 0)=true:=by simpa using HN.out.2
    clear HR hok ht CC
    simp only [HR.val,HT.v] at CN
    go_wp2_with (first
     |(with_reducible refine wa 137 hm Nc ?_;clear hm;intro w g8 hm)
     |(go_at_call 98;refine cB (CN.out _) hm ?_;clear hm;intro w1 hm)
     |(with_reducible refine gIa (t:=22) ?_;(refine A8 rfl (Am rfl HE.out rfl rfl rfl hlt) ?_))
     |(with_reducible refine gLd (t:=5) ?_;(refine A8 rfl (AU rfl rfl FV (HA.out _ _ _ hm)) ?_))
     |(with_reducible refine wla 137 0 hm ?_)
     |(with_reducible refine ws 137 0 hm ?_;clear hm;intro w hm)
     |(with_reducible refine wla 80 2 hm ?_)
     |(with_reducible refine ws 80 2 hm ?_;clear hm;intro w hm))
    refine bodyPost_ret (Ae rfl rfl (hm.row 2 rfl) (A0S _)) rfl ?_
    rw [HN.out.1]
    exact ⟨e,HN.out.2,rfl,hm.dropRow.dropRow.dropRow⟩
  ·obtain rfl:l.length=k:=by omega
   rw [List.drop_length,DI] at hR
   have HRR:=Lib.hid hR
   clear hR
   go_wp2_with (first
    |(with_reducible refine wla 80 1 hm ?_)
    |(with_reducible refine ws 80 1 hm ?_;clear hm;intro w hm))
   refine bodyPost_ret (Ae rfl rfl (hm.row 1 rfl) (A0S _)) rfl ?_
   rw [HRR.out]
   exact ⟨50,by decide,rfl,hm.dropRow.dropRow⟩
end Go.Proofs.YtkpbhdhkdonghaaGreat
