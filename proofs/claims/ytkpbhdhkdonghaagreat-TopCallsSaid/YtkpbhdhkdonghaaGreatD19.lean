/-
  Part 19 of the proof.
-/
import Derived.Test.YtkpbhdhkdonghaaGreatD08
import Derived.Test.YtkpbhdhkdonghaaGreatD10
import Derived.Test.YtkpbhdhkdonghaaGreatD11
import Derived.Test.YtkpbhdhkdonghaaGreatD12
import Derived.Test.YtkpbhdhkdonghaaGreatD15
import Derived.Test.YtkpbhdhkdonghaaGreatD18
set_option linter.all false
set_option linter.all false
set_option maxRecDepth 10000
namespace Go.Proofs.YtkpbhdhkdonghaaGreat
open Go Go.RowKit
inductive Evt where
|head (n:Int)
|block (m p s:Int)
|bytes (t:I_)
|bend (m p s:Int)
|tail (s:Int)
|fin
|bad (e:Int)
|need
inductive PS where
|head (t:HT)
|mark (n:Int) (t:MT)
|table (n m p s:Int) (t:TT)
|syms (n m p s:Int) (L:I_) (c:Int) (k:Nat) (b:DS)
|pad (n m p s:Int)
|behind
|over
|bad (e:Int)
structure Cf where
 s:PS
 R:I_
 j:Nat
def zpad (R:I_) (j:Nat):Bool:=(List.range (8 * ((j+7) / 8) - j)).all fun i=>AP R (j+i)=0
def Oj (n m p s:Int) (t:TT) (R:I_) (j:Nat):Option Evt × Cf :=
 if (t.next (AP R j)).2 then (if (t.next (AP R j)).1.s=258 then (none,⟨.syms n m p s (t.next (AP R j)).1.l 0 0 (dNew m),R,j+1⟩) else (none,⟨.table n m p s (t.next (AP R j)).1,R,j+1⟩)) else (some (.bad 100),⟨.bad 100,R,j+1⟩)
def MQ (n m p s:Int) (L:I_) (c:Int) (k:Nat) (d:DS × I_ × Bool × Int) (R:I_) (j:Nat):Option Evt × Cf :=
 if d.2.2.2=0 then (if 0 < d.2.1.length then some (.bytes d.2.1) else none,⟨if d.2.2.1 then .pad n m p s else .syms n m p s L c k d.1,R,j⟩) else (some (.bad d.2.2.2),⟨.bad d.2.2.2,R,j⟩)
def eY (n m p s:Int) (L:I_) (c:Int) (k:Nat) (b:DS) (R:I_) (j:Nat):Option Evt × Cf :=
 if (pfs L c k (AP R j)).2.2.2=true then MQ n m p s L (pfs L c k (AP R j)).1 (pfs L c k (AP R j)).2.1 (FY b (pfs L c k (AP R j)).2.2.1) R (j+1) else (none,⟨.syms n m p s L (pfs L c k (AP R j)).1 (pfs L c k (AP R j)).2.1 b,R,j+1⟩)
def Qs (r:HR) (R:I_) (j:Nat):Option Evt × Cf:=match r with
|.go t=>(none,⟨.head t,R,j⟩)
|.done n=>(some (.head n),⟨.mark n .mark,R,j⟩)
|.bad e=>(some (.bad e),⟨.bad e,R,j⟩)
def MX (n:Int) (r:MR) (R:I_) (j:Nat):Option Evt × Cf:=match r with
|.go t=>(none,⟨.mark n t,R,j⟩)
|.block m p s=>(some (.block m p s),⟨.table n m p s TT0,R,j⟩)
|.tail s=>(some (.tail s),⟨.behind,R,j⟩)
|.bad=>(some (.bad 242),⟨.bad 242,R,j⟩)
def AB (c:Cf):Option Evt × Cf:=match c.s with
|.head t=>match c.R with
 |[]=>(some (.bad 50),⟨.bad 50,c.R,c.j⟩)
 |x::R=>Qs (t.step x) R 0
|.mark n t=>match c.R with
 |[]=>(some (.bad 50),⟨.bad 50,c.R,c.j⟩)
 |x::R=>MX n (t.step n x) R 0
|.table n m p s t=>if c.j < 8 * c.R.length then Oj n m p s t c.R c.j else (some (.bad 50),⟨.bad 50,c.R,c.j⟩)
|.syms n m p s L q k b=>if c.j < 8 * c.R.length then eY n m p s L q k b c.R c.j else (some (.bad 50),⟨.bad 50,c.R,c.j⟩)
|.pad n m p s=>if zpad c.R c.j then (some (.bend m p s),⟨.mark n .mark,c.R.drop ((c.j+7) / 8),0⟩) else (some (.bad 160),⟨.bad 160,c.R.drop ((c.j+7) / 8),0⟩)
|.behind=>if 0 < c.R.length then (some (.bad 261),⟨.bad 261,c.R,c.j⟩) else (some .fin,⟨.over,c.R,c.j⟩)
|.over=>(some .fin,c)
|.bad e=>(some (.bad e),c)
def Cf.mu (c:Cf):Nat:=match c.s with
|.head _=>8 * c.R.length+1
|.mark _ _=>8 * c.R.length+1
|.table _ _ _ _ _=>8 * c.R.length - c.j+2
|.syms _ _ _ _ _ _ _ _=>8 * c.R.length - c.j+2
|.pad _ _ _ _=>8 * c.R.length - c.j+2
|.behind=>8 * c.R.length+1
|.over=>0
|.bad _=>0
def Evt.last:Evt->Bool
|.fin=>true
|.bad _=>true
|.need=>true
|_=>false
def H6:Option Evt->Bool
|none=>false
|some e=>e.last
theorem Ol (c:Cf) (h:H6 (AB c).1=false):(AB c).2.mu < c.mu:=by
 obtain ⟨s,R,j⟩:=c;cases s with
|head t =>
  cases R with
 |nil=>simp [AB,H6,Evt.last] at h
 |cons x R =>
   simp only [AB] at h ⊢;cases hr:t.step x<;>simp [Qs,H6,Evt.last,Cf.mu] at h ⊢<;>try omega
|mark n t =>
  cases R with
 |nil=>simp [AB,H6,Evt.last] at h
 |cons x R =>
   simp only [AB] at h ⊢;cases hr:t.step n x<;>simp [MX,H6,Evt.last,Cf.mu] at h ⊢<;>try omega
|table n m p s t =>
  simp only [AB] at h ⊢;by_cases hj:j < 8 * R.length
  ·rw [if_pos hj] at h ⊢;simp only [Oj] at h ⊢;by_cases h1:(t.next (AP R j)).2=true
   ·rw [if_pos h1] at h ⊢;by_cases h2:(t.next (AP R j)).1.s=258
    ·rw [if_pos h2] at h ⊢;simp [Cf.mu];omega
    ·rw [if_neg h2] at h ⊢;simp [Cf.mu];omega
   ·rw [if_neg h1] at h;simp [H6,Evt.last] at h
  ·rw [if_neg hj] at h;simp [H6,Evt.last] at h
|syms n m p s L q k b =>
  simp only [AB] at h ⊢;by_cases hj:j < 8 * R.length
  ·rw [if_pos hj] at h ⊢;simp only [eY] at h ⊢;by_cases h1:(pfs L q k (AP R j)).2.2.2=true
   ·rw [if_pos h1] at h ⊢;generalize FY b (pfs L q k (AP R j)).2.2.1=d at *;simp only [MQ] at h ⊢;by_cases h2:d.2.2.2=0
    ·rw [if_pos h2] at h ⊢;cases d.2.2.1<;>simp [Cf.mu]<;>omega
    ·rw [if_neg h2] at h;simp [H6,Evt.last] at h
   ·rw [if_neg h1] at h ⊢;simp [Cf.mu];omega
  ·rw [if_neg hj] at h;simp [H6,Evt.last] at h
|pad n m p s =>
  simp only [AB] at h ⊢;by_cases h1:zpad R j=true
  ·rw [if_pos h1] at h ⊢;simp [Cf.mu];omega
  ·rw [if_neg h1] at h;simp [H6,Evt.last] at h
|behind =>
  simp only [AB] at h;split at h<;>simp [H6,Evt.last] at h
|over=>simp [AB,H6,Evt.last] at h
|bad e=>simp [AB,H6,Evt.last] at h
def starved (c:Cf):Bool:=match c.s with
|.head _=>c.R.isEmpty
|.mark _ _=>c.R.isEmpty
|.table _ _ _ _ _=>!decide (c.j < 8 * c.R.length)
|.syms _ _ _ _ _ _ _ _=>!decide (c.j < 8 * c.R.length)
|.behind=>c.R.isEmpty
|_=>false
def RJ (en:Bool) (c:Cf):Option Evt × Cf:=if (!en && starved c)=true then (some .need,c) else AB c
theorem A3I {en:Bool} (c:Cf) (h:H6 (RJ en c).1=false):(RJ en c).2.mu < c.mu:=by
 unfold RJ at h ⊢;split at h
 ·cases h
 ·rename_i hc;rw [if_neg hc];exact Ol c h
inductive NxE (en:Bool):Cf->Evt->Cf->Prop where
|now {c:Cf} {ev:Evt} {c2:Cf} (h:RJ en c=(some ev,c2)):NxE en c ev c2
|later {c:Cf} {ev:Evt} {c2:Cf} (h:(RJ en c).1=none) (hn:NxE en (RJ en c).2 ev c2):NxE en c ev c2
theorem NxE.mu {en:Bool} {c c2:Cf} {ev:Evt} (h:NxE en c ev c2) (hl:ev.last=false):c2.mu < c.mu:=by
 induction h with
|now h=>have:=A3I _ (by rw [h];exact hl);rwa [h] at this
|later h _ ih=>have:=A3I _ (by rw [h];rfl);have:=ih hl;omega
open Go Tryz Go.RowKit
def BU (gr F:Nat) (en:Bool) (R:I_) (j:Nat) (rs RR:Rws):Prop:=∃ (X E:Rws) (v:Value) (used:Int),RR=(gr,RD v ((j % 8:Nat):Int) used en)::(X++(E++rs))/\Tail X v (R.drop (j / 8))/\Bytes R/\R.length<=F/\j<=8 * R.length/\0<=used/\(used+((8 * R.length - j:Nat):Int)=8 * F/\F<=1000)
def V4 (c:Cf) (k:Nat) (hs ms ts cs ds er:A_):Prop:=match c.s with
|.head t=>k=0/\c.j=0/\t.ok/\hs=t.v/\ms=MS 0 0 0 0 0 0 0
|.mark n t=>k=1/\c.j=0/\1<=n/\n<=65536/\t.ok n/\hs=HS 4 0 0 n/\ms=t.v
|.table n m p s t=>k=2/\1<=n/\n<=65536/\1<=m/\m<=n/\t.ok/\hs=HS 4 0 0 n/\ms=MS 4 0 0 m p s 4/\ts=t.v
|.syms n _ _ _ L q i b=>k=3/\1<=n/\n<=65536/\Uk L q i/\Vl b.l/\hs=HS 4 0 0 n/\cs=CS L q i/\ds=V b
|.pad n _ _ _=>k=4/\1<=n/\n<=65536/\hs=HS 4 0 0 n
|.behind=>k=5/\c.j=0
|.over=>k=6
|.bad e=>k=7/\er=ER e/\e ≠ 0
def Rel (gp gr F:Nat) (en:Bool) (rs:Rws) (c:Cf) (R:Rws):Prop:=∃ (k:Nat) (hs ms ts cs ds er:A_) (RR:Rws),R=(gp,PR (PT ((k:Nat)+1)) hs ms ts cs ds er)::RR/\k < 8/\PRz (PT ((k:Nat)+1)) hs ms ts cs ds er/\V4 c k hs ms ts cs ds er/\BU gr F en c.R c.j rs RR
def yR (X:Rws):Evt->Int->Int->Int->Int->Int->Value->Int->Prop
|.head n,kd,n2,_,_,_,_,_=>kd=2/\n2=n/\X=[]
|.block m p s,kd,_,m2,p2,s2,_,_=>kd=3/\m2=m/\p2=p/\s2=s/\X=[]
|.bytes t,kd,_,_,_,_,v,_=>kd=4/\0 < t.length/\Txt X v (vs .u8 t)
|.bend _ _ _,kd,_,_,_,_,_,_=>kd=5/\X=[]
|.tail s,kd,_,_,_,s2,_,_=>kd=6/\s2=s/\X=[]
|.fin,kd,_,_,_,_,_,_=>kd=7/\X=[]
|.bad e,kd,_,_,_,_,_,e2=>kd=8/\e2=e/\e ≠ 0/\X=[]
|.need,kd,_,_,_,_,_,_=>kd=1/\X=[]
def EvtO (X:Rws) (o:Option Evt) (kd n m p s:Int) (v:Value) (e:Int):Prop:=match o with
|none=>X=[]
|some ev=>yR X ev kd n m p s v e
def CPo (gp gr F:Nat) (en:Bool) (rs:Rws) (w0:World) (ss:List Sl) (c:Cf) (x:Ending) (w':World):Prop:=∃ kd n m p s v e X R,x=.returned (.tuple #[.agg (EVT kd n m p s v e),.bool (RJ en c).1.isSome])/\v.oneCell'=true/\Own w0 w' (X++R) ss/\Rel gp gr F en rs (RJ en c).2 R/\EvtO X (RJ en c).1 kd n m p s v e
theorem A21 (R:I_) (j:Nat) (hj:j < 8 * R.length):pk (R.drop (j / 8)) (j % 8) 1=AP R j:=by
 have h1:(j % 8+1+7) / 8=1:=by omega
 have h2:1 * 8 - j % 8 - 1=7 - j % 8:=by omega
 have h3:j / 8 < R.length:=by omega
 rw [pk,h1,h2,AP]
 have h4:(R.drop (j / 8)).take 1=[gi R (j / 8)]:=by
  rw [List.drop_eq_getElem_cons h3,List.take_succ_cons,List.take_zero];simp [gi,h3]
 rw [h4];simp [big]
theorem A05 (x:Int) (R:I_) (h0:0<=x) (h1:x<=255):pk (x::R) 0 8=x:=by
 have:x % 256=x:=by omega
 simpa [pk,big] using this
theorem Own.jA {w0 w:World} {g p q:Nat × A_} {X rs:Rws} {ss:List Sl} (h:Own w0 w (g::p::q::(X++rs)) ss):Own w0 w (p::q::(X++(g::rs))) ss:=h.perm (List.perm_middle (l₁:=p::q::X))
theorem Own.Xj {w0 w:World} {g p q:Nat × A_} {X rs:Rws} {ss:List Sl} (h:Own w0 w (p::q::(X++(g::rs))) ss):Own w0 w (g::p::q::(X++rs)) ss:=h.perm (List.perm_middle (l₁:=p::q::X)).symm
section
variable {gp gr F:Nat} {en:Bool} {pt hs ms ts cs ds er:A_} {R:I_} {j:Nat} {rs RR:Rws} {w0:World} {ss:List Sl}
theorem take1 (hz:PRz pt hs ms ts cs ds er) (hr:BU gr F en R j rs RR) (hj:j < 8 * R.length):∀ W g,Own w0 W (g::(gp,PR pt hs ms ts cs ds er)::RR) ss->Calls prog 124 #[.pointer (some ⟨gp,0,none⟩),.pointer (some ⟨gr,0,none⟩),.int .i64 1] W fun x w'=>(x=.returned (.tuple #[.int .u32 (AP R j),.agg (EVT 0 0 0 0 0 (.slice none 0 0) 0),.bool true]))/\∃ RR',BU gr F en R (j+1) rs RR'/\Own w0 w' (g::(gp,PR pt hs ms ts cs ds er)::RR') ss:=by
 intro W g hm;obtain ⟨X,E,v,used,rfl,ht,hB,hl,_,hu0,hu⟩:=hr;refine (ig gp gr pt hs ms ts cs ds er X v (R.drop (j / 8)) (j % 8) 1 used en w0 W (g::(E++rs)) ss hm.jA hz ht (by simp;omega) (by omega) (by omega) (by omega) hu0 (by omega) (fun x hx=>hB x (List.mem_of_mem_drop hx)) (by simp;omega)).mono ?_;rintro x w' ⟨rfl,v2,ht2,hm2⟩;rw [A21 R j hj];refine ⟨rfl,_,⟨X,E,v2,used+1,?_,?_,hB,hl,by omega,by omega,by omega⟩,hm2.Xj⟩
 ·have e:(j % 8+1) % 8=(j+1) % 8:=by omega
  rw [e];rfl
 ·have e:(R.drop (j / 8)).drop ((j % 8+1) / 8)=R.drop ((j+1) / 8):=by
   rw [List.drop_drop];congr 1;omega
  rwa [e] at ht2
theorem take8 (hz:PRz pt hs ms ts cs ds er) {y:Int} (hr:BU gr F en (y::R) 0 rs RR):∀ W g,Own w0 W (g::(gp,PR pt hs ms ts cs ds er)::RR) ss->Calls prog 124 #[.pointer (some ⟨gp,0,none⟩),.pointer (some ⟨gr,0,none⟩),.int .i64 8] W fun x w'=>(x=.returned (.tuple #[.int .u32 y,.agg (EVT 0 0 0 0 0 (.slice none 0 0) 0),.bool true]))/\∃ RR',BU gr F en R 0 rs RR'/\Own w0 w' (g::(gp,PR pt hs ms ts cs ds er)::RR') ss:=by
 intro W g hm;obtain ⟨X,E,v,used,rfl,ht,hB,hl,_,hu0,hu⟩:=hr;have hy:=hB y (by simp);simp only [List.length_cons] at hl hu;refine (ig gp gr pt hs ms ts cs ds er X v (y::R) 0 8 used en w0 W (g::(E++rs)) ss hm.jA hz ht (by simp;omega) (by omega) (by omega) (by omega) hu0 (by omega) hB (by simp;omega)).mono ?_;rintro x w' ⟨rfl,v2,ht2,hm2⟩;rw [A05 y R hy.1 (by omega)];exact ⟨rfl,_,⟨X,E,v2,used+8,rfl,ht2,fun x hx=>hB x (List.mem_cons_of_mem _ hx),by omega,by omega,by omega,by omega⟩,hm2.Xj⟩
theorem take0 (n:Nat) (hn:1<=n) (hn8:n<=8) (hz:PRz pt hs ms ts cs ds er) (hr:BU gr F true R j rs RR) (hj:¬ j < 8 * R.length):∀ W g,Own w0 W (g::(gp,PR pt hs ms ts cs ds er)::RR) ss->Calls prog 124 #[.pointer (some ⟨gp,0,none⟩),.pointer (some ⟨gr,0,none⟩),.int .i64 n] W fun x w'=>(x=.returned (.tuple #[.int .u32 0,.agg (EVT 8 0 0 0 0 (.slice none 0 0) 50),.bool false]))/\∃ RR',BU gr F true R j rs RR'/\Own w0 w' (g::(gp,PR (PT 8) hs ms ts cs ds (ER 50))::RR') ss:=by
 intro W g hm;obtain ⟨X,E,v,used,rfl,ht,hB,hl,hj2,hu0,hu⟩:=hr;have e:j % 8=0:=by omega
 refine (aS gp gr pt hs ms ts cs ds er X v (R.drop (j / 8)) (j % 8) n used true w0 W (g::(E++rs)) ss hm.jA hz ht (by simp;omega) (by omega) hn8 hn hu0 (by omega) (by simp;omega) rfl).mono ?_;rintro x w' ⟨rfl,hm2⟩;exact ⟨rfl,_,⟨X,E,v,used,rfl,ht,hB,hl,hj2,hu0,hu⟩,hm2.Xj⟩
theorem takeN (n:Nat) (hn:1<=n) (hn8:n<=8) (hz:PRz pt hs ms ts cs ds er) (hr:BU gr F false R j rs RR) (hj:¬ j < 8 * R.length):∀ W g,Own w0 W (g::(gp,PR pt hs ms ts cs ds er)::RR) ss->Calls prog 124 #[.pointer (some ⟨gp,0,none⟩),.pointer (some ⟨gr,0,none⟩),.int .i64 n] W fun x w'=>(x=.returned (.tuple #[.int .u32 0,.agg (EVT 1 0 0 0 0 (.slice none 0 0) 0),.bool false]))/\∃ RR',BU gr F false R j rs RR'/\Own w0 w' (g::(gp,PR pt hs ms ts cs ds er)::RR') ss:=by
 intro W g hm;obtain ⟨X,E,v,used,rfl,ht,hB,hl,hj2,hu0,hu⟩:=hr;have e:j % 8=0:=by omega
 refine (A5H gp gr pt hs ms ts cs ds er X v (R.drop (j / 8)) (j % 8) n used false w0 W (g::(E++rs)) ss hm.jA hz ht (by simp;omega) (by omega) hn8 hn hu0 (by omega) (by simp;omega) rfl).mono ?_;rintro x w' ⟨rfl,hm2⟩;exact ⟨rfl,_,⟨X,E,v,used,rfl,ht,hB,hl,hj2,hu0,hu⟩,hm2.Xj⟩
end
variable {pt:A_} {c c2:Cf} {t:HT} {e kd m n p s y:Int} {R2:I_} {j2 k:Nat}
section
variable {gp gr F:Nat} {en:Bool} {hs ms ts cs ds er:A_} {R:I_} {j:Nat} {rs RR:Rws} {w0 w w':World} {ss:List Sl}
theorem CPo.of {o:Option Evt} {v:Value} (hc:RJ en c=(o,c2)) (hv:v.oneCell'=true) (hm:Own w0 w' ((gp,PR (PT ((k:Nat)+1)) hs ms ts cs ds er)::RR) ss) (hk:k < 8) (hz:PRz (PT ((k:Nat)+1)) hs ms ts cs ds er) (hp:V4 c2 k hs ms ts cs ds er) (hr:BU gr F en c2.R c2.j rs RR) (he:EvtO [] o kd n m p s v e):CPo gp gr F en rs w0 ss c (.returned (.tuple #[.agg (EVT kd n m p s v e),.bool o.isSome])) w':=by
 unfold CPo;rw [hc];exact ⟨kd,n,m,p,s,v,e,[],_,rfl,hv,hm,⟨k,hs,ms,ts,cs,ds,er,RR,rfl,hk,hz,hp,hr⟩,he⟩
theorem CPo.bad (hc:RJ en c=(some (.bad e),⟨.bad e,R2,j2⟩)) (hm:Own w0 w' ((gp,PR (PT 8) hs ms ts cs ds (ER e))::RR) ss) (hz:hs.size=4/\ms.size=7/\ts.size=262/\cs.size=260/\ds.size=260) (hr:BU gr F en R2 j2 rs RR) (h0:e ≠ 0:=by decide):CPo gp gr F en rs w0 ss c (.returned (.tuple #[.agg (EVT 8 n m p s (.slice none 0 0) e),.bool true])) w' :=
 CPo.of (k:=7) hc rfl hm (by omega) ⟨rfl,hz.1,hz.2.1,hz.2.2.1,hz.2.2.2.1,hz.2.2.2.2,rfl⟩ ⟨rfl,rfl,h0⟩ hr ⟨rfl,rfl,h0,rfl⟩
theorem PRz.five (hz:PRz pt hs ms ts cs ds er):hs.size=4/\ms.size=7/\ts.size=262/\cs.size=260/\ds.size=260:=⟨hz.hs,hz.ms,hz.ts,hz.cs,hz.ds⟩
theorem BU.bd (hr:BU gr F en (y::R) j rs RR):0<=y/\y<=255:=by
 obtain ⟨X,E,v,used,_,_,hB,_⟩:=hr;have:=hB y (by simp);omega
theorem A0F (hm:Own w0 w ((gp,PR (PT 1) hs ms ts cs ds er)::RR) ss) (hz:PRz (PT 1) hs ms ts cs ds er) (hp:V4 ⟨.head t,R,j⟩ 0 hs ms ts cs ds er) (hr:BU gr F en R j rs RR):Calls prog 78 #[.pointer (some ⟨gp,0,none⟩),.pointer (some ⟨gr,0,none⟩)] w (CPo gp gr F en rs w0 ss ⟨.head t,R,j⟩):=by
 have hp0:=hp;obtain ⟨_,hj,ho,rfl,rfl⟩:=hp;obtain rfl:j=0:=hj;cases R with
|nil =>
  cases en with
 |true =>
   refine (sW gp _ _ _ _ _ _ _ _ RR w0 w ss hm (BU gr F true [] 0 rs) 8 50 _ (h_ (take0 8 (by omega) (by omega) hz hr (by simp)))).mono ?_;rintro x w' ⟨rfl,RR',hQ,hm⟩;exact CPo.bad rfl hm hz.five hQ
 |false =>
   refine (sW gp _ _ _ _ _ _ _ _ RR w0 w ss hm (BU gr F false [] 0 rs) 1 0 _ (h_ (takeN 8 (by omega) (by omega) hz hr (by simp)))).mono ?_;rintro x w' ⟨rfl,RR',hQ,hm⟩;exact CPo.of (k:=0) (c2:=⟨.head t,[],0⟩) (o:=some .need) rfl rfl hm (by omega) hz hp0 hQ ⟨rfl,rfl⟩
|cons y R =>
  have CT:=h_ (take8 (gp:=gp) (w0:=w0) (ss:=ss) hz hr);obtain ⟨c0,c1⟩:=hr.bd;have CS:=fun w=>VA t ho y c0 c1 w;have hok:=HT.step_ok ho c0 c1;cases ht:t.step y with
 |go t2 =>
   rw [ht] at hok;simp only [ht] at CS;refine (vX gp t.a t.V t.M y t2.a t2.V t2.M c0 c1 _ _ _ ts cs ds er RR w0 w ss hm (BU gr F en R 0 rs) CT (h_ CS) hz).mono ?_;rintro x w' ⟨rfl,RR',hQ,hm⟩;exact CPo.of (k:=0) (c2:=⟨.head t2,R,0⟩) (o:=none) (by simp [RJ,starved,AB,ht,Qs]) rfl hm (by omega) ⟨rfl,rfl,hz.ms,hz.ts,hz.cs,hz.ds,hz.er⟩ ⟨rfl,rfl,hok,rfl,rfl⟩ hQ rfl
 |done n =>
   rw [ht] at hok;simp only [ht] at CS;refine (dV gp t.a t.V t.M y n c0 c1 _ _ _ ts cs ds er RR w0 w ss hm (BU gr F en R 0 rs) CT (h_ CS) hz).mono ?_;rintro x w' ⟨rfl,RR',hQ,hm⟩;exact CPo.of (k:=1) (c2:=⟨.mark n .mark,R,0⟩) (o:=some (.head n)) (by simp [RJ,starved,AB,ht,Qs]) rfl hm (by omega) ⟨rfl,rfl,hz.ms,hz.ts,hz.cs,hz.ds,hz.er⟩ ⟨rfl,rfl,hok.1,hok.2,trivial,rfl,rfl⟩ hQ ⟨rfl,rfl,rfl⟩
 |bad e =>
   rw [ht] at hok;simp only [ht] at CS;have he:e ≠ 0:=by rcases hok with h|h|h<;>omega
   refine (nG gp t.a t.V t.M y e c0 c1 _ _ _ ts cs ds er RR w0 w ss hm (BU gr F en R 0 rs) CT (h_ CS) hz he).mono ?_;rintro x w' ⟨rfl,RR',hQ,hm⟩;exact CPo.bad (by simp [RJ,starved,AB,ht,Qs]) hm hz.five hQ he
theorem MT.v_ex (t:MT):∃ a V M m p s k,t.v=MS a V M m p s k:=by cases t<;>exact ⟨_,_,_,_,_,_,_,rfl⟩
theorem A0E {t:MT} (hm:Own w0 w ((gp,PR (PT 2) hs ms ts cs ds er)::RR) ss) (hz:PRz (PT 2) hs ms ts cs ds er) (hp:V4 ⟨.mark n t,R,j⟩ 1 hs ms ts cs ds er) (hr:BU gr F en R j rs RR):Calls prog 80 #[.pointer (some ⟨gp,0,none⟩),.pointer (some ⟨gr,0,none⟩)] w (CPo gp gr F en rs w0 ss ⟨.mark n t,R,j⟩):=by
 have hp0:=hp;obtain ⟨_,hj,n1,n2,ho,rfl,rfl⟩:=hp;obtain rfl:j=0:=hj;cases R with
|nil =>
  cases en with
 |true =>
   refine (sV gp _ _ _ _ _ _ _ _ RR w0 w ss hm (BU gr F true [] 0 rs) 8 50 _ (h_ (take0 8 (by omega) (by omega) hz hr (by simp)))).mono ?_;rintro x w' ⟨rfl,RR',hQ,hm⟩;exact CPo.bad rfl hm hz.five hQ
 |false =>
   refine (sV gp _ _ _ _ _ _ _ _ RR w0 w ss hm (BU gr F false [] 0 rs) 1 0 _ (h_ (takeN 8 (by omega) (by omega) hz hr (by simp)))).mono ?_;rintro x w' ⟨rfl,RR',hQ,hm⟩;exact CPo.of (k:=1) (c2:=⟨.mark n t,[],0⟩) (o:=some .need) rfl rfl hm (by omega) hz hp0 hQ ⟨rfl,rfl⟩
|cons y R =>
  have CT:=h_ (take8 (gp:=gp) (w0:=w0) (ss:=ss) hz hr);obtain ⟨c0,c1⟩:=hr.bd;have CS:=fun w=>Vo n n1 n2 t ho y c0 c1 w;have hok:=MT.step_ok n1 n2 ho c0 c1;obtain ⟨a,V,M,m,p,s,k,hv⟩:=MT.v_ex t;rw [hv] at CT hm hz;simp only [hv] at CS;cases ht:MT.step n y t with
 |go t2 =>
   obtain ⟨a2,V2,M2,m2,p2,s2,k2,hv2⟩:=MT.v_ex t2;rw [ht] at hok;simp only [ht,MR.val,hv2] at CS;refine (uV gp n a V M m p s k y a2 V2 M2 m2 p2 s2 k2 c0 c1 _ _ ts cs ds er RR w0 w ss hm (BU gr F en R 0 rs) CT (h_ CS) hz).mono ?_;rintro x w' ⟨rfl,RR',hQ,hm⟩;exact CPo.of (k:=1) (c2:=⟨.mark n t2,R,0⟩) (o:=none) (by simp [RJ,starved,AB,ht,MX]) rfl hm (by omega) ⟨rfl,rfl,rfl,hz.ts,hz.cs,hz.ds,hz.er⟩ ⟨rfl,rfl,n1,n2,hok,rfl,hv2.symm⟩ hQ rfl
 |block m2 p2 s2 =>
   rw [ht] at hok;simp only [ht] at CS;refine (YK gp n a V M m p s k y 0 0 m2 p2 s2 4 c0 c1 _ _ ts cs ds er RR w0 w ss hm (BU gr F en R 0 rs) CT (h_ CS) hz).mono ?_;rintro x w' ⟨rfl,RR',hQ,hm⟩;exact CPo.of (k:=2) (c2:=⟨.table n m2 p2 s2 TT0,R,0⟩) (o:=some (.block m2 p2 s2)) (by simp [RJ,starved,AB,ht,MX]) rfl hm (by omega) ⟨rfl,rfl,rfl,Ju,hz.cs,hz.ds,hz.er⟩ ⟨rfl,n1,n2,hok.1,hok.2.1,XK,rfl,rfl,rfl⟩ hQ ⟨rfl,rfl,rfl,rfl,rfl⟩
 |tail s2 =>
   rw [ht] at hok;simp only [ht] at CS;refine (dJ gp n a V M m p s k y 0 0 0 0 s2 4 c0 c1 _ _ ts cs ds er RR w0 w ss hm (BU gr F en R 0 rs) CT (h_ CS) hz).mono ?_;rintro x w' ⟨rfl,RR',hQ,hm⟩;exact CPo.of (k:=5) (c2:=⟨.behind,R,0⟩) (o:=some (.tail s2)) (by simp [RJ,starved,AB,ht,MX]) rfl hm (by omega) ⟨rfl,rfl,rfl,hz.ts,hz.cs,hz.ds,hz.er⟩ ⟨rfl,rfl⟩ hQ ⟨rfl,rfl,rfl⟩
 |bad =>
   simp only [ht] at CS;refine (mQ gp n a V M m p s k y c0 c1 _ _ ts cs ds er RR w0 w ss hm (BU gr F en R 0 rs) CT (h_ CS) hz).mono ?_;rintro x w' ⟨rfl,RR',hQ,hm⟩;exact CPo.bad (by simp [RJ,starved,AB,ht,MX]) hm hz.five hQ
end
variable {c c2:Cf} {b:DS} {bit m n p q s:Int} {L T:I_} {i k:Nat} {t:TT}
section
variable {gp gr F:Nat} {en:Bool} {hs ms ts cs ds er:A_} {R:I_} {j:Nat} {rs RR:Rws} {w0 w w':World} {ss:List Sl}
theorem TT.ok.A24 (h:t.ok) (h0:0<=bit) (h1:bit<=1) (hk:(t.next bit).2=true):(t.next bit).1.l.length=258:=by
 rcases h.next h0 h1 hk with h|h
 ·exact h.2.len
 ·exact h.2.1
theorem Xw (h1:1<=m) (h2:m<=65536):Vl (dNew m).l:=by
 rw [Oi (by omega) (by omega)];exact A1E
theorem Xu (h:Vl b.l) (s:Int):Vl (FY b s).1.l:=by
 rw [FY];split
 ·split
  ·rw [G9];split
   ·exact h
   ·split
    ·exact h
    ·split
     ·exact h
     ·exact h.Ie _
  ·exact h
 ·exact h
theorem ZB (b:DS) (s:Int):(FY b s).2.1.length<=1000000:=by
 rw [FY];split
 ·rename_i h;obtain ⟨a1,a2,a3,a4,_⟩:=TL h.1;split
  ·rw [G9];split
   ·simp
   ·split
    ·simp [DS.rep];omega
    ·split
     ·simp
     ·simp [DS.rep];omega
  ·simp
 ·simp
theorem xq (hm:Own w0 w ((gp,PR (PT 3) hs ms ts cs ds er)::RR) ss) (hz:PRz (PT 3) hs ms ts cs ds er) (hp:V4 ⟨.table n m p s t,R,j⟩ 2 hs ms ts cs ds er) (hr:BU gr F en R j rs RR):Calls prog 82 #[.pointer (some ⟨gp,0,none⟩),.pointer (some ⟨gr,0,none⟩)] w (CPo gp gr F en rs w0 ss ⟨.table n m p s t,R,j⟩):=by
 have hp0:=hp;obtain ⟨_,n1,n2,m1,m2,ho,rfl,rfl,rfl⟩:=hp;by_cases hj:j < 8 * R.length
 ·have CT:=h_ (take1 (gp:=gp) (w0:=w0) (ss:=ss) hz hr hj);obtain ⟨c0,c1⟩:=KY R j;have CX:=fun w=>SK t (AP R j) ho c0 c1 w;by_cases h1:(t.next (AP R j)).2=true
  ·simp only [h1,if_true] at CX;have hlen:=ho.A24 c0 c1 h1;by_cases h2:(t.next (AP R j)).1.s=258
   ·have hn:=ho.next c0 c1 h1
    have hn2:(t.next (AP R j)).1.l.length=258/\Bytes (t.next (AP R j)).1.l/\JL (t.next (AP R j)).1.l=true:=by
     rcases hn with h|h
     ·omega
     ·exact h.2
    have e:((t.next (AP R j)).1.s == 258)=true:=by simp [h2]
    simp only [e] at CX;refine (XU gp (AP R j) 4 0 0 m p s 4 c0 c1 _ _ _ _ cs ds er RR w0 w ss hm (BU gr F en R (j+1) rs) CT _ (h_ CX) hz (Dy hlen) (Di _ _ _ _ _) (CS (t.next (AP R j)).1.l 0 0) (V (dNew m)) (J .u8 (t.next (AP R j)).1.l) (Jv hlen) (by rw [Df];exact hlen) (CU hlen) (Eb _ _ _) (FT (YS m)) (A35 _) (h_ (fun w=>Yh _ hn2.1 hn2.2.1 hn2.2.2 w)) (h_ (fun w=>Zx m w))).mono ?_;rintro x w' ⟨rfl,RR',hQ,hm⟩;exact CPo.of (k:=3) (c2:=⟨.syms n m p s (t.next (AP R j)).1.l 0 0 (dNew m),R,j+1⟩) (o:=none) (by simp [RJ,starved,AB,hj,Oj,h1,h2]) rfl hm (by omega) ⟨rfl,rfl,rfl,Dy hlen,CU hlen,FT (YS m),hz.er⟩ ⟨rfl,n1,n2,Uk.zero hn2.1 hn2.2.1 hn2.2.2,Xw m1 (by omega),rfl,rfl,rfl⟩ hQ rfl
   ·have hn:(t.next (AP R j)).1.ok:=by
     rcases ho.next c0 c1 h1 with h|h
     ·exact h.2
     ·exact absurd h.1 h2
    have e:((t.next (AP R j)).1.s == 258)=false:=by simp [h2]
    simp only [e] at CX;refine (kS gp (AP R j) c0 c1 _ _ _ _ _ cs ds er RR w0 w ss hm (BU gr F en R (j+1) rs) CT _ (h_ CX) hz (Dy hlen) (Di _ _ _ _ _)).mono ?_;rintro x w' ⟨rfl,RR',hQ,hm⟩;exact CPo.of (k:=2) (c2:=⟨.table n m p s (t.next (AP R j)).1,R,j+1⟩) (o:=none) (by simp [RJ,starved,AB,hj,Oj,h1,h2]) rfl hm (by omega) ⟨rfl,rfl,rfl,Dy hlen,hz.cs,hz.ds,hz.er⟩ ⟨rfl,n1,n2,m1,m2,hn,rfl,rfl,rfl⟩ hQ rfl
  ·simp only [h1,if_false,Bool.false_eq_true] at CX;refine (aT gp (AP R j) c0 c1 _ _ _ _ _ cs ds er RR w0 w ss hm (BU gr F en R (j+1) rs) CT _ (h_ CX) hz Ju XJ).mono ?_;rintro x w' ⟨rfl,RR',hQ,hm⟩;exact CPo.bad (by simp [RJ,starved,AB,hj,Oj,h1]) hm hz.five hQ
 ·cases en with
 |true =>
   refine (sU gp _ _ _ _ _ _ _ _ RR w0 w ss hm (BU gr F true R j rs) 8 50 _ (h_ (take0 1 (by omega) (by omega) hz hr hj))).mono ?_;rintro x w' ⟨rfl,RR',hQ,hm⟩;exact CPo.bad (by simp [RJ,starved,AB,hj]) hm hz.five hQ
 |false =>
   refine (sU gp _ _ _ _ _ _ _ _ RR w0 w ss hm (BU gr F false R j rs) 1 0 _ (h_ (takeN 1 (by omega) (by omega) hz hr hj))).mono ?_;rintro x w' ⟨rfl,RR',hQ,hm⟩;exact CPo.of (k:=2) (c2:=⟨.table n m p s t,R,j⟩) (o:=some .need) (by simp [RJ,starved,hj]) rfl hm (by omega) hz hp0 hQ ⟨rfl,rfl⟩
theorem Txt.slice {X:Rws} {v:Value} {T:I_} (h:Txt X v (vs .u8 T)):∃ a c,v=.slice a T.length c:=by
 rcases h with ⟨rfl,h,_⟩|⟨g,c,cells,_,rfl,_⟩
 ·have:T=[]:=by simpa [vs] using h
  exact ⟨none,0,by rw [this];rfl⟩
 ·exact ⟨_,c,by rw [Ai]⟩
theorem BU.more {X:Rws} (hr:BU gr F en R j rs RR) (hm:Own w0 w ((gp,cs)::(X++RR)) ss):∃ RR',BU gr F en R j rs RR'/\Own w0 w ((gp,cs)::RR') ss:=by
 obtain ⟨Y,E,v,used,rfl,h⟩:=hr;refine ⟨(gr,RD v ((j % 8:Nat):Int) used en)::(Y++((X++E)++rs)),⟨Y,X++E,v,used,rfl,h⟩,hm.perm (List.Perm.cons _ ?_)⟩;have h1:(X++(gr,RD v ((j % 8:Nat):Int) used en)::(Y++(E++rs))).Perm ((gr,RD v ((j % 8:Nat):Int) used en)::(X++(Y++(E++rs)))):=List.perm_middle;refine List.Perm.trans (List.Perm.cons _ ?_) h1.symm
 have h2:(X++(Y++(E++rs))).Perm (Y++(X++(E++rs))):=by
  rw [<- l_a,<- l_a Y];exact List.perm_append_comm.append_right _
 rw [l_a];exact h2.symm
theorem CPo.text {X:Rws} {v:Value} (hX:Txt X v (vs .u8 T)) (hc:RJ en c=(if 0 < T.length then some (.bytes T) else none,c2)) (hm:Own w0 w' ((gp,PR (PT ((k:Nat)+1)) hs ms ts cs ds er)::(X++RR)) ss) (hk:k < 8) (hz:PRz (PT ((k:Nat)+1)) hs ms ts cs ds er) (hp:V4 c2 k hs ms ts cs ds er) (hr:BU gr F en c2.R c2.j rs RR):CPo gp gr F en rs w0 ss c (.returned (.tuple #[.agg (EVT 4 0 0 0 0 v 0),.bool (decide (0 < T.length))])) w':=by
 have hv:v.oneCell'=true:=by obtain ⟨a,c,rfl⟩:=hX.slice;rfl
 by_cases h:0 < T.length
 ·rw [if_pos h] at hc;unfold CPo;rw [hc,decide_eq_true h];exact ⟨4,0,0,0,0,v,0,X,_,rfl,hv,hm.perm (List.perm_middle (l₁:=X)),⟨k,hs,ms,ts,cs,ds,er,RR,rfl,hk,hz,hp,hr⟩,rfl,h,hX⟩
 ·rw [if_neg h] at hc;rw [decide_eq_false h];obtain ⟨RR2,hr2,hm2⟩:=hr.more hm;exact CPo.of (o:=none) hc hv hm2 hk hz hp hr2 rfl
theorem A0C (hm:Own w0 w ((gp,PR (PT 4) hs ms ts cs ds er)::RR) ss) (hz:PRz (PT 4) hs ms ts cs ds er) (hp:V4 ⟨.syms n m p s L q i b,R,j⟩ 3 hs ms ts cs ds er) (hr:BU gr F en R j rs RR):Calls prog 84 #[.pointer (some ⟨gp,0,none⟩),.pointer (some ⟨gr,0,none⟩)] w (CPo gp gr F en rs w0 ss ⟨.syms n m p s L q i b,R,j⟩):=by
 have hp0:=hp;obtain ⟨_,n1,n2,ho,hv,rfl,rfl,rfl⟩:=hp;by_cases hj:j < 8 * R.length
 ·have CT:=h_ (take1 (gp:=gp) (w0:=w0) (ss:=ss) hz hr hj);obtain ⟨c0,c1⟩:=KY R j;have CF:=fun w=>A59 L q (AP R j) i ho c0 c1 w;have ho2:=ho.next c0 c1;have hb2:Vl (FY b (pfs L q i (AP R j)).2.2.1).1.l:=Xu hv _;by_cases h1:(pfs L q i (AP R j)).2.2.2=true
  ·simp only [h1] at CF;have CE:=fun w=>VJ b (pfs L q i (AP R j)).2.2.1 w hv.len hv.bytes;have hT:=ZB b (pfs L q i (AP R j)).2.2.1;have hc:RJ en ⟨.syms n m p s L q i b,R,j⟩=MQ n m p s L (pfs L q i (AP R j)).1 (pfs L q i (AP R j)).2.1 (FY b (pfs L q i (AP R j)).2.2.1) R (j+1):=by simp [RJ,starved,AB,hj,eY,h1]
   generalize (pfs L q i (AP R j)).2.2.1=sy at CF CE hc hT hb2;generalize FY b sy=d at CE hc hT hb2;obtain ⟨d1,T,f,e⟩:=d;by_cases h2:e=0
   ·subst h2;cases f with
   |false =>
     refine (Wv gp (AP R j) sy c0 c1 _ _ _ _ _ _ _ er RR w0 w ss hm (BU gr F en R (j+1) rs) CT _ (h_ CF) hz (CU ho.len) (Eb _ _ _) (V d1) T hT (h_ CE) (FT hb2.len) (A35 _)).mono ?_;rintro x w' ⟨v,X,RR',rfl,hX,hQ,hm⟩;exact CPo.text (k:=3) (c2:=⟨.syms n m p s L (pfs L q i (AP R j)).1 (pfs L q i (AP R j)).2.1 d1,R,j+1⟩) hX (by rw [hc];simp [MQ]) hm (by omega) ⟨rfl,rfl,hz.ms,hz.ts,CU ho.len,FT hb2.len,hz.er⟩ ⟨rfl,n1,n2,ho2,hb2,rfl,rfl,rfl⟩ hQ
   |true =>
     refine (XV gp (AP R j) sy c0 c1 _ _ _ _ _ _ _ er RR w0 w ss hm (BU gr F en R (j+1) rs) CT _ (h_ CF) hz (CU ho.len) (Eb _ _ _) (V d1) T hT (h_ CE) (FT hb2.len) (A35 _)).mono ?_;rintro x w' ⟨v,X,RR',rfl,hX,hQ,hm⟩;exact CPo.text (k:=4) (c2:=⟨.pad n m p s,R,j+1⟩) hX (by rw [hc];simp [MQ]) hm (by omega) ⟨rfl,rfl,hz.ms,hz.ts,CU ho.len,FT hb2.len,hz.er⟩ ⟨rfl,n1,n2,rfl⟩ hQ
   ·refine (XW gp (AP R j) sy e c0 c1 _ _ _ _ _ _ _ er RR w0 w ss hm (BU gr F en R (j+1) rs) CT _ (h_ CF) hz (CU ho.len) (Eb _ _ _) f (V d1) T hT (h_ CE) (FT hb2.len) (A35 _) h2).mono ?_;rintro x w' ⟨rfl,X,RR',hQ,hm⟩;obtain ⟨RR2,hQ2,hm2⟩:=hQ.more hm;exact CPo.bad (by rw [hc];simp [MQ,h2]) hm2 ⟨rfl,hz.ms,hz.ts,CU ho.len,hz.ds⟩ hQ2 h2
  ·simp only [h1] at CF;refine (Wx gp (AP R j) _ c0 c1 _ _ _ _ _ _ _ er RR w0 w ss hm (BU gr F en R (j+1) rs) CT _ (h_ CF) hz (CU ho.len) (Eb _ _ _)).mono ?_;rintro x w' ⟨rfl,RR',hQ,hm⟩;exact CPo.of (k:=3) (c2:=⟨.syms n m p s L (pfs L q i (AP R j)).1 (pfs L q i (AP R j)).2.1 b,R,j+1⟩) (o:=none) (by simp [RJ,starved,AB,hj,eY,h1]) rfl hm (by omega) ⟨rfl,rfl,hz.ms,hz.ts,CU ho.len,hz.ds,hz.er⟩ ⟨rfl,n1,n2,ho2,hv,rfl,rfl,rfl⟩ hQ rfl
 ·cases en with
 |true =>
   refine (sS gp _ _ _ _ _ _ _ _ RR w0 w ss hm (BU gr F true R j rs) 8 50 _ (h_ (take0 1 (by omega) (by omega) hz hr hj))).mono ?_;rintro x w' ⟨rfl,RR',hQ,hm⟩;exact CPo.bad (by simp [RJ,starved,AB,hj]) hm hz.five hQ
 |false =>
   refine (sS gp _ _ _ _ _ _ _ _ RR w0 w ss hm (BU gr F false R j rs) 1 0 _ (h_ (takeN 1 (by omega) (by omega) hz hr hj))).mono ?_;rintro x w' ⟨rfl,RR',hQ,hm⟩;exact CPo.of (k:=3) (c2:=⟨.syms n m p s L q i b,R,j⟩) (o:=some .need) (by simp [RJ,starved,hj]) rfl hm (by omega) hz hp0 hQ ⟨rfl,rfl⟩
end
def bU (R:I_) (j:Nat):Int:=if j % 8=0 then 0 else gi R (j / 8) % 2 ^ (8 - j % 8)
def sZ (j:Nat):Int:=if j % 8=0 then 0 else ((8 - j % 8:Nat):Int)
theorem XM (R:I_) (j:Nat):zpad R j=true ↔ bU R j=0:=by
 rw [zpad,bU,l_t];by_cases h:j % 8=0
 ·have:8 * ((j+7) / 8) - j=0:=by omega
  simp [h,this]
 ·rw [if_neg h];have hn:8 * ((j+7) / 8) - j=8 - j % 8:=by omega
  rw [hn]
  have hb:∀ i,i < 8 - j % 8->AP R (j+i)=gi R (j / 8) / 2 ^ (7 - (j % 8+i)) % 2:=by
   intro i hi;have h1:(j+i) / 8=j / 8:=by omega
   have h2:(j+i) % 8=j % 8+i:=by omega
   rw [AP,h1,h2]
  have e:(∀ x ∈ List.range (8 - j % 8),(decide (AP R (j+x)=0))=true) ↔ ∀ i,i < 8 - j % 8->gi R (j / 8) / 2 ^ (7 - (j % 8+i)) % 2=0:=by
   constructor
   ·intro H i hi;rw [<- hb i hi];exact of_decide_eq_true (H i (List.mem_range.2 hi))
   ·intro H i hi;have hi:=List.mem_range.1 hi;rw [hb i hi];exact decide_eq_true (H i hi)
  rw [e];generalize gi R (j / 8)=x;have hc:j % 8=1\/j % 8=2\/j % 8=3\/j % 8=4\/j % 8=5\/j % 8=6\/j % 8=7:=by omega
  rcases hc with hc|hc|hc|hc|hc|hc|hc<;>rw [hc]<;>constructor
  ·intro H;have h0:=H 0 (by decide);have h1:=H 1 (by decide);have h2:=H 2 (by decide);have h3:=H 3 (by decide);have h4:=H 4 (by decide);have h5:=H 5 (by decide);have h6:=H 6 (by decide);simp only [Nat.reduceAdd,Nat.reduceSub,Int.reducePow] at *;omega
  ·intro H i hi;have hi2:i=0\/i=1\/i=2\/i=3\/i=4\/i=5\/i=6:=by omega
   rcases hi2 with rfl|rfl|rfl|rfl|rfl|rfl|rfl<;>simp only [Nat.reduceAdd,Nat.reduceSub,Int.reducePow] at *<;>omega
  ·intro H;have h0:=H 0 (by decide);have h1:=H 1 (by decide);have h2:=H 2 (by decide);have h3:=H 3 (by decide);have h4:=H 4 (by decide);have h5:=H 5 (by decide);simp only [Nat.reduceAdd,Nat.reduceSub,Int.reducePow] at *;omega
  ·intro H i hi;have hi2:i=0\/i=1\/i=2\/i=3\/i=4\/i=5:=by omega
   rcases hi2 with rfl|rfl|rfl|rfl|rfl|rfl<;>simp only [Nat.reduceAdd,Nat.reduceSub,Int.reducePow] at *<;>omega
  ·intro H;have h0:=H 0 (by decide);have h1:=H 1 (by decide);have h2:=H 2 (by decide);have h3:=H 3 (by decide);have h4:=H 4 (by decide);simp only [Nat.reduceAdd,Nat.reduceSub,Int.reducePow] at *;omega
  ·intro H i hi;have hi2:i=0\/i=1\/i=2\/i=3\/i=4:=by omega
   rcases hi2 with rfl|rfl|rfl|rfl|rfl<;>simp only [Nat.reduceAdd,Nat.reduceSub,Int.reducePow] at *<;>omega
  ·intro H;have h0:=H 0 (by decide);have h1:=H 1 (by decide);have h2:=H 2 (by decide);have h3:=H 3 (by decide);simp only [Nat.reduceAdd,Nat.reduceSub,Int.reducePow] at *;omega
  ·intro H i hi;have hi2:i=0\/i=1\/i=2\/i=3:=by omega
   rcases hi2 with rfl|rfl|rfl|rfl<;>simp only [Nat.reduceAdd,Nat.reduceSub,Int.reducePow] at *<;>omega
  ·intro H;have h0:=H 0 (by decide);have h1:=H 1 (by decide);have h2:=H 2 (by decide);simp only [Nat.reduceAdd,Nat.reduceSub,Int.reducePow] at *;omega
  ·intro H i hi;have hi2:i=0\/i=1\/i=2:=by omega
   rcases hi2 with rfl|rfl|rfl<;>simp only [Nat.reduceAdd,Nat.reduceSub,Int.reducePow] at *<;>omega
  ·intro H;have h0:=H 0 (by decide);have h1:=H 1 (by decide);simp only [Nat.reduceAdd,Nat.reduceSub,Int.reducePow] at *;omega
  ·intro H i hi;have hi2:i=0\/i=1:=by omega
   rcases hi2 with rfl|rfl<;>simp only [Nat.reduceAdd,Nat.reduceSub,Int.reducePow] at *<;>omega
  ·intro H;have h0:=H 0 (by decide);simp only [Nat.reduceAdd,Nat.reduceSub,Int.reducePow] at *;omega
  ·intro H i hi;have hi2:i=0:=by omega
   subst hi2;simp only [Nat.reduceAdd,Nat.reduceSub,Int.reducePow] at *;omega
theorem A20 (R:I_) (j:Nat) (h3:j / 8 < R.length):pk (R.drop (j / 8)) (j % 8) (8 - j % 8)=gi R (j / 8) % 2 ^ (8 - j % 8):=by
 have h1:(j % 8+(8 - j % 8)+7) / 8=1:=by omega
 have h2:1 * 8 - j % 8 - (8 - j % 8)=0:=by omega
 rw [pk,h1,h2]
 have h4:(R.drop (j / 8)).take 1=[gi R (j / 8)]:=by
  rw [List.drop_eq_getElem_cons h3,List.take_succ_cons,List.take_zero];simp [gi,h3]
 rw [h4];simp [big]
section
variable {gp gr F:Nat} {en:Bool} {pt hs ms ts cs ds er:A_} {R:I_} {j:Nat} {rs RR:Rws} {w0 w w':World} {ss:List Sl}
theorem Wi:∀ W g RR,BU gr F en R j rs RR->Own w0 W (g::(gp,PR pt hs ms ts cs ds er)::RR) ss->Calls prog 131 #[.pointer (some ⟨gr,0,none⟩)] W fun x w'=>(x=.returned (.tuple #[.int .u32 (bU R j),.int .i64 (sZ j)]))/\∃ RR',BU gr F en (R.drop ((j+7) / 8)) 0 rs RR'/\Own w0 w' (g::(gp,PR pt hs ms ts cs ds er)::RR') ss:=by
 rintro W g RR ⟨X,E,v,used,rfl,ht,hB,hl,hj,hu0,hu⟩ hm;have hB2:∀ k,Bytes (R.drop k):=fun k x hx=>hB x (List.mem_of_mem_drop hx);by_cases h:j % 8=0
 ·rw [h] at hm;refine (o8 gr X v _ used en w0 W _ ss hm.bM ht (hB2 _) (by simp;omega) hu0 (by omega)).mono ?_;rintro x w' ⟨rfl,hm2⟩;rw [bU,sZ,if_pos h,if_pos h];have e:(j+7) / 8=j / 8:=by omega
  rw [e];exact ⟨rfl,_,⟨X,E,v,used,rfl,ht,hB2 _,by simp;omega,by omega,hu0,by simp;omega⟩,hm2.Nh⟩
 ·refine (o7 gr X v _ (j % 8) used en w0 W _ ss hm.bM ht (hB2 _) (by simp;omega) (by omega) hu0 (by omega) (by omega) (by simp;omega)).mono ?_;rintro x w' ⟨rfl,v2,ht2,hm2⟩;rw [bU,sZ,if_neg h,if_neg h,A20 R j (by omega)];have e:(j+7) / 8=j / 8+1:=by omega
  rw [List.drop_drop] at ht2;rw [e];exact ⟨rfl,_,⟨X,E,v2,used+(8 - j % 8:Nat),rfl,ht2,hB2 _,by simp;omega,by omega,by omega,by simp;omega⟩,hm2.Nh⟩
theorem YT:∀ W g RR,BU gr F en R 0 rs RR->Own w0 W (g::(gp,PR pt hs ms ts cs ds er)::RR) ss->Calls prog 132 #[.pointer (some ⟨gr,0,none⟩)] W fun x w'=>(x=.returned (.int .i64 ((R.length:Int) * 8 - 0)))/\∃ RR',BU gr F en R 0 rs RR'/\Own w0 w' (g::(gp,PR pt hs ms ts cs ds er)::RR') ss:=by
 rintro W g RR ⟨X,E,v,used,rfl,ht,hB,hl,hj,hu0,hu⟩ hm;obtain ⟨ad,c,rfl⟩:=ht.shape;refine (fH gr ad R.length c 0 used en w0 W _ ss hm.bM (by omega) (by omega) (by omega)).mono ?_;rintro x w' ⟨rfl,hm2⟩;exact ⟨rfl,_,⟨X,E,_,used,rfl,ht,hB,hl,hj,hu0,hu⟩,hm2.Nh⟩
theorem nO:∀ W g RR,BU gr F en R j rs RR->Own w0 W (g::(gp,PR pt hs ms ts cs ds er)::RR) ss->Calls prog 133 #[.pointer (some ⟨gr,0,none⟩)] W fun x w'=>(x=.returned (.bool en))/\∃ RR',BU gr F en R j rs RR'/\Own w0 w' (g::(gp,PR pt hs ms ts cs ds er)::RR') ss:=by
 rintro W g RR ⟨X,E,v,used,rfl,ht,hB,hl,hj,hu0,hu⟩ hm;refine (jS gr v _ used en w0 W _ ss hm.bM).mono ?_;rintro x w' ⟨rfl,hm2⟩;exact ⟨rfl,_,⟨X,E,_,used,rfl,ht,hB,hl,hj,hu0,hu⟩,hm2.Nh⟩
theorem A2x {n m p s:Int} (hm:Own w0 w ((gp,PR (PT 5) hs ms ts cs ds er)::RR) ss) (hz:PRz (PT 5) hs ms ts cs ds er) (hp:V4 ⟨.pad n m p s,R,j⟩ 4 hs ms ts cs ds er) (hr:BU gr F en R j rs RR):Calls prog 86 #[.pointer (some ⟨gp,0,none⟩),.pointer (some ⟨gr,0,none⟩)] w (CPo gp gr F en rs w0 ss ⟨.pad n m p s,R,j⟩):=by
 obtain ⟨_,n1,n2,rfl⟩:=hp;by_cases h:bU R j=0
 ·have hZ:=(XM R j).2 h;have CA:=Wi (F:=F) (en:=en) (R:=R) (j:=j) (rs:=rs) (gr:=gr) (w0:=w0) (ss:=ss) (gp:=gp) (pt:=PT 5) (hs:=HS 4 0 0 n) (ms:=ms) (ts:=ts) (cs:=cs) (ds:=ds) (er:=er);rw [h] at CA;refine (bV gp (sZ j) _ _ _ ms ts cs ds er RR w0 w ss hm (BU gr F en R j rs) (BU gr F en (R.drop ((j+7) / 8)) 0 rs) hr (h_ CA) hz).mono ?_;rintro x w' ⟨rfl,RR',hQ,hm⟩;exact CPo.of (k:=1) (c2:=⟨.mark n .mark,R.drop ((j+7) / 8),0⟩) (o:=some (.bend m p s)) (by simp [RJ,starved,AB,hZ]) rfl hm (by omega) ⟨rfl,rfl,rfl,hz.ts,hz.cs,hz.ds,hz.er⟩ ⟨rfl,rfl,n1,n2,trivial,rfl,rfl⟩ hQ ⟨rfl,rfl⟩
 ·have hZ:¬ zpad R j=true:=fun e=>h ((XM R j).1 e);refine (Yj gp (sZ j) (bU R j) _ _ _ ms ts cs ds er RR w0 w ss hm (BU gr F en R j rs) (BU gr F en (R.drop ((j+7) / 8)) 0 rs) hr h (h_ Wi) hz).mono ?_;rintro x w' ⟨rfl,RR',hQ,hm⟩;exact CPo.bad (by simp [RJ,starved,AB,hZ]) hm hz.five hQ
theorem nU (hm:Own w0 w ((gp,PR (PT 6) hs ms ts cs ds er)::RR) ss) (hz:PRz (PT 6) hs ms ts cs ds er) (hp:V4 ⟨.behind,R,j⟩ 5 hs ms ts cs ds er) (hr:BU gr F en R j rs RR):Calls prog 88 #[.pointer (some ⟨gp,0,none⟩),.pointer (some ⟨gr,0,none⟩)] w (CPo gp gr F en rs w0 ss ⟨.behind,R,j⟩):=by
 obtain ⟨_,hj⟩:=hp;obtain rfl:j=0:=hj;by_cases h:0 < R.length
 ·refine (bJ gp ((R.length:Int) * 8 - 0) _ _ _ ms ts cs ds er RR w0 w ss hm (BU gr F en R 0 rs) (BU gr F en R 0 rs) hr (by omega) (h_ YT) hz).mono ?_;rintro x w' ⟨rfl,RR',hQ,hm⟩;exact CPo.bad (by simp only [RJ,AB,if_pos h,starved,List.isEmpty_eq_false_iff.2 (List.ne_nil_of_length_pos h)];simp) hm hz.five hQ
 ·cases en with
 |true =>
   refine (lJ gp ((R.length:Int) * 8 - 0) _ _ _ ms ts cs ds er RR w0 w ss hm (BU gr F true R 0 rs) (BU gr F true R 0 rs) hr (by omega) (h_ YT) (h_ nO) hz).mono ?_;rintro x w' ⟨rfl,RR',hQ,hm⟩;exact CPo.of (k:=6) (c2:=⟨.over,R,0⟩) (o:=some .fin) (by simp only [RJ,AB,if_neg h];rfl) rfl hm (by omega) ⟨rfl,hz.hs,hz.ms,hz.ts,hz.cs,hz.ds,hz.er⟩ rfl hQ ⟨rfl,rfl⟩
 |false =>
   have hR:R=[]:=List.length_eq_zero_iff.1 (by omega);refine (A58 gp ((R.length:Int) * 8 - 0) _ _ _ ms ts cs ds er RR w0 w ss hm (BU gr F false R 0 rs) (BU gr F false R 0 rs) hr (by omega) (h_ YT) (h_ nO) hz).mono ?_;rintro x w' ⟨rfl,RR',hQ,hm⟩;exact CPo.of (k:=5) (c2:=⟨.behind,R,0⟩) (o:=some .need) (by rw [hR];rfl) rfl hm (by omega) hz ⟨rfl,rfl⟩ hQ ⟨rfl,rfl⟩
theorem A0D (hm:Own w0 w ((gp,PR (PT 7) hs ms ts cs ds er)::RR) ss) (hz:PRz (PT 7) hs ms ts cs ds er) (hr:BU gr F en R j rs RR):Calls prog 90 #[.pointer (some ⟨gp,0,none⟩),.pointer (some ⟨gr,0,none⟩)] w (CPo gp gr F en rs w0 ss ⟨.over,R,j⟩):=by
 refine (wL gp _ _ hs ms ts cs ds er RR w0 w ss hm).mono ?_;rintro x w' ⟨rfl,hm⟩;exact CPo.of (k:=6) (c2:=⟨.over,R,j⟩) (o:=some .fin) (by simp [RJ,starved,AB]) rfl hm (by omega) hz rfl hr ⟨rfl,rfl⟩
theorem A2y {e:Int} (hm:Own w0 w ((gp,PR (PT 8) hs ms ts cs ds er)::RR) ss) (hz:PRz (PT 8) hs ms ts cs ds er) (hp:V4 ⟨.bad e,R,j⟩ 7 hs ms ts cs ds er) (hr:BU gr F en R j rs RR):Calls prog 92 #[.pointer (some ⟨gp,0,none⟩),.pointer (some ⟨gr,0,none⟩)] w (CPo gp gr F en rs w0 ss ⟨.bad e,R,j⟩):=by
 obtain ⟨_,rfl,h0⟩:=hp;refine (nI gp e _ _ hs ms ts cs ds RR w0 w ss hm hz).mono ?_;rintro x w' ⟨rfl,hm⟩;exact CPo.bad (by simp [RJ,starved,AB]) hm hz.five hr h0
theorem A2z {c:Cf} {k:Nat} (hk:k < 8) (hm:Own w0 w ((gp,PR (PT ((k:Nat)+1)) hs ms ts cs ds er)::RR) ss) (hz:PRz (PT ((k:Nat)+1)) hs ms ts cs ds er) (hp:V4 c k hs ms ts cs ds er) (hr:BU gr F en c.R c.j rs RR):Calls prog (78+2 * k) #[.pointer (some ⟨gp,0,none⟩),.pointer (some ⟨gr,0,none⟩)] w (CPo gp gr F en rs w0 ss c):=by
 obtain ⟨s,R,j⟩:=c;cases s with
|head t=>obtain rfl:k=0:=hp.1;exact A0F hm hz hp hr
|mark n t=>obtain rfl:k=1:=hp.1;exact A0E hm hz hp hr
|table n m p s t=>obtain rfl:k=2:=hp.1;exact xq hm hz hp hr
|syms n m p s L q i b=>obtain rfl:k=3:=hp.1;exact A0C hm hz hp hr
|pad n m p s=>obtain rfl:k=4:=hp.1;exact A2x hm hz hp hr
|behind=>obtain rfl:k=5:=hp.1;exact nU hm hz hp hr
|over=>obtain rfl:k=6:=hp;exact A0D hm hz hr
|bad e=>obtain rfl:k=7:=hp.1;exact A2y hm hz hp hr
end
theorem PR_k {a b:Int} {hs ms ts cs ds er hs' ms' ts' cs' ds' er':A_} (h:PR (PT a) hs ms ts cs ds er=PR (PT b) hs' ms' ts' cs' ds' er'):a=b:=by
 have h2:(PR (PT a) hs ms ts cs ds er)[0]?=(PR (PT b) hs' ms' ts' cs' ds' er')[0]?:=by rw [h]
 simpa [PR,PT] using h2
section
variable {gp gr F:Nat} {en:Bool} {rs:Rws} {w0 w w':World} {ss:List Sl}
theorem BU.addf {R:I_} {j:Nat} {f p:Nat × A_} {RR:Rws} (hr:BU gr F en R j rs RR) (hm:Own w0 w (f::p::RR) ss):∃ RR2,BU gr F en R j (f::rs) RR2/\Own w0 w (p::RR2) ss:=by
 obtain ⟨X,E,v,used,rfl,h⟩:=hr;rw [<- l_a] at hm;have hm:=hm.jA;rw [l_a] at hm;exact ⟨_,⟨X,E,v,used,rfl,h⟩,hm⟩
theorem Rel.outx {c:Cf} {f:Nat × A_} {X R:Rws} (hr:Rel gp gr F en (f::rs) c R) (hm:Own w0 w (X++R) ss):∃ R2,Rel gp gr F en rs c R2/\Own w0 w (f::(X++R2)) ss:=by
 obtain ⟨k,hs,ms,ts,cs,ds,er,RR,rfl,hk,hz,hp,Y,E,v,used,rfl,h⟩:=hr;refine ⟨_,⟨k,hs,ms,ts,cs,ds,er,_,rfl,hk,hz,hp,Y,E,v,used,rfl,h⟩,hm.perm ?_⟩;have e:∀ (A B:Rws) (g:Nat × A_),(A++(g::B)).Perm (g::(A++B)):=fun A B g=>List.perm_middle;have:=e (X++((gp,PR (PT (k+1)) hs ms ts cs ds er)::(gr,RD v ((c.j % 8:Nat):Int) used en)::(Y++E))) rs f;simpa using this.symm
theorem zH {c:Cf} {R:Rws} (hR:Rel gp gr F en rs c R) (hm:Own w0 w R ss):Calls prog 38 #[.pointer (some ⟨gp,0,none⟩),.pointer (some ⟨gr,0,none⟩)] w fun x w'=>∃ kd n m p s v e ev c2 X R',x=.returned (.agg (EVT kd n m p s v e))/\v.oneCell'=true/\NxE en c ev c2/\yR X ev kd n m p s v e/\Rel gp gr F en rs c2 R'/\Own w0 w' (X++R') ss:=by
 have hR0:=hR;obtain ⟨k,hs,ms,ts,cs,ds,er,RR,rfl,hk,hz,hp,hr⟩:=hR;refine (zG gp gr _ hs ms ts cs ds er RR w0 w ss hm (fun n R=>∃ c',(∀ ev c2,NxE en c' ev c2->NxE en c ev c2)/\n=c'.mu/\Rel gp gr F en rs c' R) c.mu ⟨c,fun _ _ h=>h,rfl,hR0⟩ ?_ (fun kd n m p s v e R'=>∃ ev c2 X R2,R'=X++R2/\v.oneCell'=true/\NxE en c ev c2/\yR X ev kd n m p s v e/\Rel gp gr F en rs c2 R2) (h_ ?_)).mono ?_
 ·rintro n R ⟨c',_,_,k,hs,ms,ts,cs,ds,er,RR,rfl,hk,hz,_⟩;exact ⟨k,hs,ms,ts,cs,ds,er,RR,rfl,hk,hz⟩
 ·rintro n k hs ms ts cs ds er RR2 W f ss' hk ⟨c',hN,rfl,k',hs',ms',ts',cs',ds',er',RR',hR,hk',hz',hp',hr'⟩ hm;rw [hR] at hm;injection hR with h1 h2;injection h1 with _ h1;have hkk:=PR_k h1;obtain rfl:k=k':=by omega
  clear h1 h2 hkk;obtain ⟨RR3,hr3,hm3⟩:=hr'.addf hm;refine (A2z hk hm3 hz' hp' hr3).mono ?_;rintro x w' ⟨kd,n,m,p,s,v,e,X,R,rfl,hv,hm4,hR4,hE⟩;obtain ⟨R2,hR5,hm5⟩:=hR4.outx hm4;refine ⟨kd,n,m,p,s,v,e,_,X++R2,rfl,hv,hm5,?_,?_⟩
  ·intro ht;obtain ⟨ev,he⟩:=Option.isSome_iff_exists.1 ht;rw [he] at hE;exact ⟨ev,(RJ en c').2,X,R2,rfl,hv,hN _ _ (NxE.now (by rw [<- he])),hE,hR5⟩
  ·intro ht;have he:(RJ en c').1=none:=by simpa using ht
   rw [he] at hE;obtain rfl:X=[]:=hE;exact ⟨_,A3I c' (by rw [he];rfl),(RJ en c').2,fun ev c2 h=>hN _ _ (NxE.later he h),rfl,hR5⟩
 ·rintro x w' ⟨kd,n,m,p,s,v,e,R',rfl,⟨ev,c2,X,R2,rfl,h0,h1,h2,h3⟩,hm⟩;exact ⟨kd,n,m,p,s,v,e,ev,c2,X,R2,rfl,h0,h1,h2,h3,hm⟩
theorem Rel.split {c:Cf} {R:Rws} (hr:Rel gp gr F en rs c R):∃ P,R=P++rs/\∀ rs',Rel gp gr F en rs' c (P++rs'):=by
 obtain ⟨k,hs,ms,ts,cs,ds,er,RR,rfl,hk,hz,hp,X,E,v,used,rfl,h⟩:=hr;refine ⟨(gp,PR (PT (k+1)) hs ms ts cs ds er)::(gr,RD v ((c.j % 8:Nat):Int) used en)::(X++E),by simp,fun rs'=>⟨k,hs,ms,ts,cs,ds,er,_,rfl,hk,hz,hp,X,E,v,used,by simp,h⟩⟩
theorem Rel.start {v:Value}:Rel gp gr 0 false rs ⟨.head ⟨0,0,0⟩,[],0⟩ ((gp,PR0)::(gr,RD (.slice none 0 0) 0 0 false)::rs) :=
 ⟨0,_,_,_,_,_,_,_,rfl,by omega,PR0_z,⟨rfl,rfl,.inl ⟨by decide,by decide,rfl,rfl⟩,rfl,rfl⟩,[],[],_,0,rfl,.inl ⟨rfl,rfl,rfl⟩,(fun x h=>(by cases h)),by simp,Nat.zero_le _,by omega,by simp⟩
end
set_option maxHeartbeats 1000000
set_option maxRecDepth 100000
variable {ss:List Sl} {ga gp gr:Nat} {a b c:Nat × A_} {o:Oper} {u x y z:Operand} {rs:Rws} {w w0:World}
@[reducible] def DRw (bud md:Int) (pa pr pp sv:Value) (m p q came:Int) (bv:Value) (st told all e:Int):A_:=#[.int .i64 bud,.int .u8 md,pa,pr,pp,sv,.int .i64 m,.int .i64 p,.int .u32 q,.int .i64 came,bv,.int .i64 st,.int .i64 told,.int .u32 all,.int .i64 e]
theorem A4i {a:Act} (ho:o.op=.build 106 #[(0,x),(2,y),(3,z),(4,u)]) {b:Int} (hx:a.eval x=.int .i64 b) (hy:a.eval y=.pointer (some ⟨ga,0,none⟩)) (hz:a.eval z=.pointer (some ⟨gr,0,none⟩)) (hu:a.eval u=.pointer (some ⟨gp,0,none⟩)):(execOp a.eval o).run prog w=.ok (.value (.agg (DRw b 0 (.pointer (some ⟨ga,0,none⟩)) (.pointer (some ⟨gr,0,none⟩)) (.pointer (some ⟨gp,0,none⟩)) (.slice none 0 0) 0 0 0 0 .nilIface 0 0 0 0))) w :=
 Dq ho (by simp only [l_y,List.map_cons,List.map_nil,hx,hy,hz,hu];kernel_rfl)
theorem dcnew (b:Nat) (w0 w:World) (rs:Rws) (ss:List Sl) (hm:Own w0 w rs ss) (h1:1<=b) (h2:b<=1048576):Calls prog 17 #[.int .i64 b] w fun x w'=>∃ gd ga gx gr gp,x=.returned (.tuple #[.pointer (some ⟨gd,0,none⟩),.int .i64 0])/\Own w0 w' ((gd,DRw b 0 (.pointer (some ⟨ga,0,none⟩)) (.pointer (some ⟨gr,0,none⟩)) (.pointer (some ⟨gp,0,none⟩)) (.slice none 0 0) 0 0 0 0 .nilIface 0 0 0 0)::(gp,PR0)::(gr,RD (.slice none 0 0) 0 0 false)::(ga,AR (.slice (some ⟨gx,0,none⟩) b b) 0 0)::(gx,B (List.replicate b 0))::rs) ss:=by
 go_enter func17,ntmps17
 go_wp2_with (first
 |(go_at_call 22;have _t:=hm;refine (A6X b _ _ _ _ hm h1 h2).mono ?_;clear _t hm;rintro e w1 ⟨ga,gx,rfl,hm⟩)
 |(go_at_call 34;have _t:=hm;refine (brnew _ _ _ _ hm).mono ?_;clear _t hm;rintro e w1 ⟨gr,rfl,hm⟩)
 |(go_at_call 35;have _t:=hm;refine (pnew _ _ _ _ hm).mono ?_;clear _t hm;rintro e w1 ⟨gp,rfl,hm⟩)
 |(with_reducible refine gBu (t:=106) ?_;(refine A8 rfl (A4i rfl rfl rfl rfl) ?_))
 |(with_reducible refine wb hm ?_;clear hm;intro w gd hm))
 go_ret2
 exact ⟨gd,ga,gx,gr,gp,rfl,hm⟩
theorem A75 (gd:Nat) (bud md:Int) (pa:Value) (gr:Nat) (pp sv:Value) (m p q came:Int) (bv:Value) (st told all e:Int) (w0 w:World) (rs:Rws) (ss:List Sl) (hm:Own w0 w ((gd,DRw bud md pa (.pointer (some ⟨gr,0,none⟩)) pp sv m p q came bv st told all e)::rs) ss):Calls prog 20 #[.pointer (some ⟨gd,0,none⟩)] w fun x w'=>(x=.returned (.int .i64 told))/\w'=w:=by
 go_enter func20,ntmps20
 go_wp2_with (first
  |(with_reducible refine wl 3 0 hm ?_))
 go_ret;exact ⟨rfl,rfl⟩
theorem dcend (gd:Nat) (bud md:Int) (pa:Value) (gr:Nat) (pp sv:Value) (m p q came:Int) (bv:Value) (st told all e:Int) (w0 w:World) (rs:Rws) (ss:List Sl) (v:Value) (bit used:Int) (hm:Own w0 w ((gd,DRw bud md pa (.pointer (some ⟨gr,0,none⟩)) pp sv m p q came bv st told all e)::(gr,RD v bit used false)::rs) ss):Calls prog 21 #[.pointer (some ⟨gd,0,none⟩)] w fun x w'=>(x=.returned (.bool true))/\Own w0 w' ((gd,DRw bud md pa (.pointer (some ⟨gr,0,none⟩)) pp sv m p q came bv st told all e)::(gr,RD v bit used true)::rs) ss:=by
 go_enter func21,ntmps21
 go_wp2_with (first
  |(go_at_call 37;have _t:=hm;refine (brend gr v bit used _ _ _ _ (hm.perm (List.Perm.swap _ _ _))).mono ?_;clear _t hm;rintro e2 w1 ⟨rfl,hm⟩;replace hm:=hm.perm (List.Perm.swap _ _ _))
  |(with_reducible refine wl 68 0 hm ?_))
 go_ret;exact ⟨rfl,hm⟩
theorem A5u {X:Rws}:(a::b::(X++(c::rs))).Perm (b::c::(X++(a::rs))):=by
 have e:∀ (A B:Rws) (g:Nat × A_),(A++(g::B)).Perm (g::(A++B)):=fun A B g=>List.perm_middle;refine (List.Perm.swap b a _).trans (List.Perm.cons _ ?_);exact (List.Perm.cons _ (e X rs c)).trans ((List.Perm.swap c a _).trans (List.Perm.cons _ (e X rs a).symm))
theorem Own.fq {X:Rws} (h:Own w0 w (a::b::(X++(c::rs))) ss):Own w0 w (b::c::(X++(a::rs))) ss:=h.perm A5u.symm
theorem Own.unfq {X:Rws} (h:Own w0 w (b::c::(X++(a::rs))) ss):Own w0 w (a::b::(X++(c::rs))) ss:=h.perm A5u
theorem A76 (gd:Nat) (bud md:Int) (pa:Value) (gr:Nat) (pp sv:Value) (m p q came:Int) (bv:Value) (st told all e:Int) (w0 w:World) (rs:Rws) (ss:List Sl) (v:Value) (bit used:Int) (gq:Nat) (u:Value) (X:Rws) (l mm:I_) (hm:Own w0 w ((gd,DRw bud md pa (.pointer (some ⟨gr,0,none⟩)) pp sv m p q came bv st told all e)::(gr,RD v bit used false)::(X++((gq,#[u])::rs))) ss) (ht:Tail X v l) (hu:∀ W rr,Own w0 W rr ss->Src W u (vs .u8 mm)) (hl:l.length+mm.length<=1000000):Calls prog 18 #[.pointer (some ⟨gd,0,none⟩),.slice (some ⟨gq,0,none⟩) 1 1] w fun x w'=>x=.returned (.bool true)/\∃ X2 v2,Tail X2 v2 (l++mm)/\Own w0 w' ((gd,DRw bud md pa (.pointer (some ⟨gr,0,none⟩)) pp sv m p q came bv st told all e)::(gr,RD v2 bit used false)::(X2++((gq,#[u])::rs))) ss:=by
 have HT:=h_ ht;have HU:=h_ hu;clear ht hu;go_enter func18,ntmps18
 go_wp2_with (first
  |(go_at_call 36;have _t:=hm;refine (A2D gr gq X v u l mm bit used _ _ _ _ hm.fq HT.out (fun W h=>HU.out W _ h) hl).mono ?_;clear _t hm;rintro e2 w1 ⟨rfl,X2,v2,ht2,hm⟩;replace hm:=hm.unfq)
  |(with_reducible refine wl 68 0 hm ?_))
 go_ret;exact ⟨rfl,X2,v2,ht2,hm⟩
set_option maxHeartbeats 1000000
set_option maxRecDepth 100000
variable {b:Int} {l:I_} {ss:List Sl} {fn fr fs ft fv g g1 g2 t:Nat} {rs:Rws} {u:Value} {w w0:World}
theorem InS.one (h:Own w0 w ((g,#[u])::rs) ss) (hu:In .u8 w u l):InS w (.slice (some ⟨g,0,none⟩) 1 1) [l]:=by
 refine ⟨_,_,rfl,fun i hi=>?_⟩;simp only [List.length_cons,List.length_nil] at hi;obtain rfl:i=0:=by omega
 exact ⟨_,u,rfl,by rw [Addr.add_lit];exact (h.row 0 rfl).cell 0,hu⟩
theorem A45 (h:Own w0 w ((g2,#[.slice (some ⟨g1,0,none⟩) 1 1])::(g1,#[.int .u8 b])::rs) ss):InS w (.slice (some ⟨g2,0,none⟩) 1 1) [[b]] :=
 InS.one h ⟨_,_,rfl,fun i hi=>by
  simp only [List.length_cons,List.length_nil] at hi;obtain rfl:i=0:=by omega
  exact ⟨_,rfl,by rw [Addr.add_lit];exact (h.row 1 rfl).cell 0⟩⟩
def WKd (t fv fn fr fs ft:Nat):Prop:=(t=54/\fv=28/\fn=30/\fr=311/\fs=312/\ft=313)\/(t=57/\fv=29/\fn=31/\fr=314/\fs=315/\ft=316)
theorem A6u (gd:Nat) (bud md:Int) (pa pr pp sv:Value) (m p q came:Int) (st told all e:Int) (w0 w:World) (rs:Rws) (ss:List Sl) (hm:Own w0 w ((gd,DRw bud md pa pr pp sv m p q came (.nilIface) (st) (told) (all) e)::rs) ss):Calls prog 63 #[.pointer (some ⟨gd,0,none⟩)] w fun x w'=>(x=.returned (.tuple #[.int .u8 0,.bool false]))/\w'=w:=by
 go_enter func63,ntmps63
 go_wp2_with ((with_reducible refine wl 104 0 hm ?_))
 all_goals (go_ret2;exact ⟨rfl,rfl⟩)
theorem U2 (hk:WKd t fv fn fr fs ft):∀ (gw:Nat) (W:World),(method 488 t (.pointer (some ⟨gw,0,none⟩)) "Next").run prog W=.ok (fn,.pointer (some ⟨gw,0,none⟩)) W/\(method 488 t (.pointer (some ⟨gw,0,none⟩)) "Told").run prog W=.ok (ft,.pointer (some ⟨gw,0,none⟩)) W/\(method 488 t (.pointer (some ⟨gw,0,none⟩)) "Steps").run prog W=.ok (fs,.pointer (some ⟨gw,0,none⟩)) W/\(method 488 t (.pointer (some ⟨gw,0,none⟩)) "Valid").run prog W=.ok (fv,.pointer (some ⟨gw,0,none⟩)) W/\(method 488 t (.pointer (some ⟨gw,0,none⟩)) "Reset").run prog W=.ok (fr,.pointer (some ⟨gw,0,none⟩)) W:=fun gw W=>by
 rcases hk with ⟨rfl,rfl,rfl,rfl,rfl,rfl⟩|⟨rfl,rfl,rfl,rfl,rfl,rfl⟩
 ·exact ⟨by kernel_rfl,by kernel_rfl,by kernel_rfl,by kernel_rfl,by kernel_rfl⟩
 ·exact ⟨by kernel_rfl,by kernel_rfl,by kernel_rfl,by kernel_rfl,by kernel_rfl⟩
theorem A6t (t fv fn fr fs ft:Nat) (hk:WKd t fv fn fr fs ft) (gd gw:Nat) (cs cs2:A_) (b k ws:Int) (bud md:Int) (pa pr pp sv:Value) (m p q came:Int) (st told all e:Int) (w0 w:World) (rs:Rws) (ss:List Sl) (hm:Own w0 w ((gd,DRw bud md pa pr pp sv m p q came (.iface t (.pointer (some ⟨gw,0,none⟩))) (st) (told) (all) e)::(gw,cs)::rs) ss) (CN:Hid (∀ W f,Own w0 W (f::(gw,cs)::rs) ss->Calls prog fn #[.pointer (some ⟨gw,0,none⟩)] W fun x w'=>(x=.returned (.tuple #[.int .u8 b,.bool true]))/\Own w0 w' (f::(gw,cs2)::rs) ss)) (CT:Hid (∀ W f,Own w0 W (f::(gw,cs2)::rs) ss->Calls prog ft #[.pointer (some ⟨gw,0,none⟩)] W fun x w'=>(x=.returned (.int .i64 k))/\w'=W)) (CS:Hid (∀ W f,Own w0 W (f::(gw,cs2)::rs) ss->Calls prog fs #[.pointer (some ⟨gw,0,none⟩)] W fun x w'=>(x=.returned (.int .i64 ws))/\w'=W)) (t0:0<=told) (t1:told<=1000000000000) (s0:0<=st) (s1:st<=1000000000000000) (x0:0<=ws) (x1:ws<=1000000000000000):Calls prog 63 #[.pointer (some ⟨gd,0,none⟩)] w fun x w'=>(x=.returned (.tuple #[.int .u8 b,.bool true]))/\Own w0 w' ((gd,DRw bud md pa pr pp sv m p q came (if k=m then .nilIface else .iface t (.pointer (some ⟨gw,0,none⟩))) (if k=m then st+ws else st) (told+1) (crc all [[b]]) e)::(gw,cs2)::rs) ss:=by
 have w1:IntKind.i64.wrap (told+1)=told+1:=i_6;have w2:IntKind.i64.wrap (st+ws)=st+ws:=i_6;obtain ⟨i1,hE1⟩:=A4t;have HE1:=h_ hE1;obtain ⟨i2,hE2⟩:=wO;have HE2:=h_ hE2;clear hE1 hE2;have h_N:=fun W=>(U2 hk gw W).1;have h_T:=fun W=>(U2 hk gw W).2.1;have h_S:=fun W=>(U2 hk gw W).2.2.1;rcases hk with ⟨rfl,rfl,rfl,rfl,rfl,rfl⟩|⟨rfl,rfl,rfl,rfl,rfl,rfl⟩
 all_goals
  go_enter func63,ntmps63
  go_upto_region 7 with (first
   |((first|go_at_call 30|go_at_call 31);have _t:=hm;refine (CN.out _ _ hm).mono ?_;clear _t hm;rintro e1 w1 ⟨rfl,hm⟩)
   |(go_at_call 107;have _t:=hm;refine (nV all _ [[b]] _ (A45 hm) (by simp) (by simp)).mono ?_;rintro e1 w1 ⟨rfl,hb⟩;replace hm:=(hm.call hb).dropRow.dropRow;clear hb _t)
   |(with_reducible first|(refine wl 3 0 hm ?_)|(refine wl 72 0 hm ?_)|(refine wl 104 0 hm ?_)|(refine wc 3 0 hm ?_;clear hm;intro w hm)|(refine wc 72 0 hm ?_;clear hm;intro w hm))
   |(refine Ad rfl (JQ hm rfl HE1.out (Ac rfl) rfl ?_);clear hm;intro w g1 hm)
   |(refine Ad rfl (JQ hm rfl HE2.out (Ac rfl) rfl ?_);clear hm;intro w g2 hm))
  refine rO hm 11 (.rds [(0,false),(1,false),(2,false),(3,true),(5,false),(6,false),(7,false),(8,false),(9,true)] (.one 4 (.rds [(10,false)] .done))) ?_;clear hm;intro w hm;simp only [KT.rds]
  iterate 3 refine kq ?_
  refine km (fun W hm=>ld 0 hm rfl rfl rfl (ot rfl) rfl) ?_
  iterate 4 refine kq ?_
  refine km (fun W hm=>ld 0 hm rfl rfl rfl (ot rfl) rfl) ?_;refine DJ rfl rfl (fun K hK=>?_);go_simp;refine (CT.out _ _ hm).mono ?_;rintro e w1 ⟨rfl,rfl⟩;refine hK _ _ ⟨fun W=>Own _ W _ _,fun _ h=>h,hm,?_⟩;clear hK K;refine kq ?_;refine Ba ?_;go_simp;by_cases hkm:k=m
  ·subst hkm;have q1:(k == k)=true:=by simp
   go_upto_region 8 with fail
   refine rO hm 12 (.rds [(0,false),(1,false),(2,false),(3,true),(4,false),(5,false),(6,false),(7,true)] (.one 8 (.rds [(9,false),(10,false),(11,false)] (.brk 12 13 .done)))) ?_;clear hm;intro w hm;simp only [KT.rds]
   iterate 3 refine kq ?_
   refine km (fun W hm=>ld 0 hm rfl rfl rfl (ot rfl) rfl) ?_
   iterate 3 refine kq ?_
   refine km (fun W hm=>ld 0 hm rfl rfl rfl (ot rfl) rfl) ?_;refine DJ rfl rfl (fun K hK=>?_);go_simp;refine (CS.out _ _ hm).mono ?_;rintro e w1 ⟨rfl,rfl⟩;refine hK _ _ ⟨fun W=>Own _ W _ _,fun _ h=>h,hm,?_⟩;clear hK K
   (refine K_p rfl rfl (fun W=>by go_simp;(rfl)) ?_)
   try simp only [Act.put,s3]
   iterate 2 refine kq ?_
   (refine Em rfl rfl (AZ 0 hm rfl rfl (Ac rfl) rfl (ot rfl) (by simp) rfl rfl rfl ?_))
   clear hm;intro w hm
   try simp only [puts,s2,List.set,List.eraseIdx,s3] at hm
   refine ⟨fun W=>Own _ W _ _,hm,?_⟩
   try simp only [Act.put,s3]
   refine Ba ?_;go_simp
   go_wp2_with ((with_reducible refine gSt (t:=104) ?_;(refine Ad rfl (AZ 0 hm rfl rfl rfl rfl (ot rfl) (by simp) rfl rfl rfl ?_);clear hm;intro w hm;try simp only [puts,s2,List.set,List.eraseIdx,s3] at hm)))
   go_ret2
   exact ⟨rfl,hm⟩
  ·have q1:(k == m)=false:=by simp [hkm]
   go_wp2_with fail
   go_ret2
   exact ⟨rfl,hm⟩
set_option maxHeartbeats 1000000
set_option maxRecDepth 100000
theorem Own.A4j {w0 w:World} {p q r s:Nat × A_} {rs:Rws} {ss:List Sl} (h:Own w0 w (p::q::r::s::rs) ss):Own w0 w (r::s::p::q::rs) ss:=h.perm ((List.perm_append_comm (l₁:=[r,s]) (l₂:=[p,q])).append_right rs)
theorem A6x (kd n1 m1 p1 s1:Int) (v:Value) (e1:Int) (gd:Nat) (bud md:Int) (pa pr pp sv:Value) (m p q came:Int) (bv:Value) (st told all e:Int) (w0 w:World) (rs:Rws) (ss:List Sl) (hm:Own w0 w ((gd,DRw bud md pa pr pp (sv) (m) (p) (q) (came) (bv) (st) (told) (all) (e))::rs) ss):Calls prog 59 #[.pointer (some ⟨gd,0,none⟩),.agg (EVT kd n1 m1 p1 s1 v e1)] w fun x w'=>(x=.returned (.int .i64 0))/\Own w0 w' ((gd,DRw bud md pa pr pp (sv) (m1) (p1) (s1) (0) (bv) (st) (told) (all) (e))::rs) ss:=by
 go_enter func59,ntmps59
 go_wp2_with (first
  |(with_reducible refine gLd (t:=74) ?_;((refine A8 rfl (ld3 0 hm rfl rfl rfl (ag rfl) rfl rfl rfl) ?_)))
  |(with_reducible refine gSt (t:=3) ?_;((refine Ad rfl (AZ 1 hm rfl rfl rfl rfl (ot rfl) (by simp) rfl rfl rfl ?_);clear hm;intro w hm;try simp only [puts,s2,List.set,List.eraseIdx,s3] at hm)))
  |(with_reducible first|(refine wu 74 1 hm ?_;clear hm;intro w hm)|(refine wb hm ?_;clear hm;intro w g hm)))
 go_ret;exact ⟨rfl,hm.dropRow⟩
theorem A6R (kd n1 m1 p1 s1:Int) (v:Value) (e1:Int) (gd:Nat) (bud md:Int) (pa pr pp sv:Value) (m p q came:Int) (bv:Value) (st told all e:Int) (w0 w:World) (rs:Rws) (ss:List Sl) (hm:Own w0 w ((gd,DRw bud md pa pr pp (sv) (m) (p) (q) (came) (bv) (st) (told) (all) (e))::rs) ss):Calls prog 62 #[.pointer (some ⟨gd,0,none⟩),.agg (EVT kd n1 m1 p1 s1 v e1)] w fun x w'=>(x=.returned (.int .i64 (if s1=all then 0 else 260)))/\Own w0 w' ((gd,DRw bud md pa pr pp (sv) (m) (p) (q) (came) (bv) (st) (told) (all) (e))::rs) ss:=by
 go_enter func62,ntmps62
 go_upto_region 1 with ((with_reducible refine wb hm ?_;clear hm;intro w g hm))
 refine rO hm 8 (.rds [(0,false),(1,false),(2,true),(3,false),(4,false),(5,false),(6,true),(7,false)] .done) ?_;clear hm;intro w hm;simp only [KT.rds]
 iterate 2 refine kq ?_
 refine km (fun W hm=>ld 0 hm rfl rfl rfl (ot rfl) rfl) ?_
 iterate 3 refine kq ?_
 refine km (fun W hm=>ld 1 hm rfl rfl rfl (ot rfl) rfl) ?_;refine kq ?_;refine Ba ?_;go_simp;by_cases hq:s1=all
 ·subst hq;have q1:(s1 != s1)=false:=by simp
  go_wp2;go_ret;exact ⟨rfl,hm.dropRow⟩
 ·have q1:(s1 != all)=true:=by simpa using hq
  go_wp2;go_ret;exact ⟨rfl,hm.dropRow⟩
theorem A6S (gd ga gx gs gt sp spc n k tcap:Nat) (sc tc:A_) (l t:I_) (live peak:Int) (bud md:Int) (pr pp:Value) (m p q:Int) (bv:Value) (st told all e:Int) (kd n1 m1 p1 s1 e1:Int) (w0 w:World) (rs:Rws) (ss:List Sl) (hm:Own w0 w ((gd,DRw bud md (.pointer (some ⟨ga,0,none⟩)) pr pp (.slice (some ⟨gs,sp,none⟩) 2 spc) m p q ((k:Int)) bv st told all e)::(ga,AR (.slice (some ⟨gx,0,none⟩) l.length l.length) live peak)::(gx,B l)::(gs,sc)::(gt,tc)::rs) ss) (h0:sc[sp]?=some (.int .i64 0)) (h1:sc[sp+1]?=some (.int .i64 n)) (ht:∀ (j:Nat) (u:Value),(vs .u8 t)[j]?=some u->tc[j]?=some u) (hn:(n:Int)<=live) (hl:live<=l.length) (hb:l.length<=1048576) (hk:k+t.length<=n) (t0:0 < t.length):Calls prog 60 #[.pointer (some ⟨gd,0,none⟩),.agg (EVT kd n1 m1 p1 s1 (.slice (some ⟨gt,0,none⟩) t.length tcap) e1)] w fun x w'=>(x=.returned (.int .i64 0))/\Own w0 w' ((gd,DRw bud md (.pointer (some ⟨ga,0,none⟩)) pr pp (.slice (some ⟨gs,sp,none⟩) 2 spc) m p q (((k+t.length:Nat):Int)) bv st told all e)::(ga,AR (.slice (some ⟨gx,0,none⟩) l.length l.length) live peak)::(gx,B (A3c l (0+k) t))::(gs,sc)::(gt,tc)::rs) ss:=by
 have HS0:Hid (sc[sp+0 * 2]?=some (.int .i64 0)):=h_ (by simpa using h0);have HS1:Hid (sc[sp+0 * 2+1]?=some (.int .i64 n)):=h_ (by simpa using h1)
 have HT:Hid (∀ W f R,Own w0 W (f::(gd,R)::(ga,AR (.slice (some ⟨gx,0,none⟩) l.length l.length) live peak)::(gx,B l)::(gs,sc)::(gt,tc)::rs) ss->∀ (j:Nat) (u:Value),(vs .u8 t)[j]?=some u->W.cell? ((⟨gt,0,none⟩:Addr).add j)=some u):=h_ fun W f R h j u hj=>by
  rw [Addr.add_lit,Nat.zero_add];have:=(h.row 5 rfl).cell j;rw [this];exact ht j u hj
 clear h0 h1 ht;obtain ⟨i1,hE⟩:=A5v;have HE:=h_ hE;clear hE;have w1:IntKind.i64.wrap ((k:Int)+t.length)=((k+t.length:Nat):Int):=by rw [IntWalk.i64_in _ (by omega)];push_cast;rfl
 go_enter func60,ntmps60
 go_upto_region 1 with ((with_reducible refine wb hm ?_;clear hm;intro w g hm))
 refine rO hm 16 (.rds [(0,false),(1,false),(2,false),(3,true),(4,false),(5,false),(6,false),(7,true),(8,false),(9,true),(10,false),(11,false),(12,false),(13,true),(14,false),(15,true)] (.brk 16 17 .done)) ?_;clear hm;intro w hm;simp only [KT.rds]
 iterate 3 refine kq ?_
 refine km (fun W hm=>ld 1 hm rfl rfl rfl (ot rfl) rfl) ?_
 iterate 3 refine kq ?_
 refine km (fun W hm=>ld 1 hm rfl rfl rfl (ot rfl) rfl) ?_
 (refine K_p rfl rfl (fun W=>ix (k:=0) rfl HE.out rfl rfl rfl (by omega)) ?_)
 try simp only [Act.put,s3]
 refine km (fun W hm=>ld2 4 hm rfl rfl rfl (ag rfl) HS0.out HS1.out) ?_
 iterate 3 refine kq ?_
 refine km (fun W hm=>ld 1 hm rfl rfl rfl (ot rfl) rfl) ?_;refine kq ?_;refine km (fun W hm=>ld 0 hm rfl rfl rfl (ot rfl) rfl) ?_;refine PO rfl rfl (fun K hK=>?_);go_simp;refine (A6k ga gx 0 n k l t ⟨gt,0,none⟩ tcap live peak _ _ _ _ hm.A4j (HT.out _ _ _ hm) (by omega) (by omega) (by omega) (by omega) (by omega)).mono ?_;rintro e w1 ⟨rfl,hm⟩;replace hm:=hm.A4j;refine hK _ _ ⟨fun W=>Own _ W _ _,hm,?_⟩;clear hK K;refine Ba ?_;go_simp
 go_upto_region 2 with fail
 refine rO hm 10 (.rds [(0,false),(1,false),(2,false),(3,true),(4,false),(5,true),(6,false),(7,false),(8,false),(9,false)] (.brk 10 11 .done)) ?_;clear hm;intro w hm;simp only [KT.rds]
 iterate 3 refine kq ?_
 refine km (fun W hm=>ld 1 hm rfl rfl rfl (ot rfl) rfl) ?_;refine kq ?_;refine km (fun W hm=>ld 0 hm rfl rfl rfl (ot rfl) rfl) ?_;refine kq ?_
 (refine K_p rfl rfl (fun W=>by go_simp;(rfl)) ?_)
 try simp only [Act.put,s3]
 iterate 2 refine kq ?_
 ((refine Em rfl rfl (AZ 1 hm rfl rfl (Ac rfl) rfl (ot rfl) (by simp) rfl rfl rfl ?_)))
 clear hm;intro w hm
 try simp only [puts,s2,List.set,List.eraseIdx,s3] at hm
 refine ⟨fun W=>Own _ W _ _,hm,?_⟩
 try simp only [Act.put,s3]
 refine Ba ?_;go_simp;go_wp2;go_ret;exact ⟨rfl,hm.dropRow⟩
set_option maxHeartbeats 400000
variable {en:Bool} {c c2:Cf} {b:DS} {N g m p q:Int} {l:I_} {ph0 ro0 ro1:Nat}
theorem Xv (b:DS) (s:Int) (h:(FY b s).2.2.2=0):((FY b s).2.1.length:Int)+(FY b s).1.left=b.left/\0<=(FY b s).1.left/\((FY b s).2.2.1=true->(FY b s).1.left=0):=by
 rw [FY] at h ⊢;split at h
 ·rename_i h0;rw [if_pos h0];obtain ⟨a1,a2,a3,a4,_⟩:=TL h0.1;have hr:=jl a3;split at h
  ·rename_i h1;rw [if_pos h1];rw [G9] at h1 ⊢;split at h1
   ·rename_i h2;rw [if_pos h2];exact ⟨by simp,a1,fun hf=>by rw [h0.2.1] at hf;cases hf⟩
   ·rename_i h2;rw [if_neg h2];split at h1
    ·rename_i h3;rw [if_pos h3];have h1:=of_decide_eq_true h1;exact ⟨by simp only;omega,by simp,fun _=>rfl⟩
    ·rename_i h3;rw [if_neg h3];split at h1
     ·cases h1
     ·rename_i h4;rw [if_neg h4];exact ⟨by simp only [List.length_append,List.length_singleton];omega,by simp only;omega,fun hf=>by cases hf⟩
  ·cases h
 ·cases h
theorem A53 (h:Vl l) (p:Int):0<=takeC l p/\takeC l p < 256:=by
 unfold takeC;split
 ·rename_i hp;exact h.bytes.gi _ (by rw [h.len];omega)
 ·omega
theorem eU (h:Vl b.l) (s:Int):Bytes (FY b s).2.1:=by
 have hr:Bytes b.rep:=fun x hx=>by
  rw [DS.rep] at hx;rw [List.eq_of_mem_replicate hx];exact h.bytes.gi 0 (by rw [h.len];omega)
 have hn:Bytes ([]:I_):=fun x hx=>by cases hx
 rw [FY];split
 ·split
  ·rw [G9];split
   ·exact hn
   ·split
    ·exact hr
    ·split
     ·exact hn
     ·intro x hx;rcases List.mem_append.1 hx with hx|hx
      ·exact hr x hx
      ·rw [List.mem_singleton.1 hx];exact A53 h _
  ·exact hn
 ·exact hn
def PS.ph:PS->Nat
|.head _=>0
|.table _ _ _ _ _=>2
|.syms _ _ _ _ _ _ _ _=>2
|.pad _ _ _ _=>2
|_=>1
def Cf.ro (c:Cf):Nat:=if c.s.ph=2 then c.R.length+1 else c.R.length
def Hd (N m p q n k a b:Int):Prop:=n=N/\1<=n/\n<=65536/\m=k/\p=a/\q=b/\1<=k/\k<=n/\1<=a/\a<=k/\0<=b/\b < 4294967296
def EI (c:Cf) (N m p q g:Int):Prop:=Bytes c.R/\c.j<=8 * c.R.length/\match c.s with
|.head t=>t.ok
|.mark n t=>n=N/\1<=n/\n<=65536/\t.ok n
|.table n k a b _=>Hd N m p q n k a b/\g=0
|.syms n k a b _ _ _ d=>Hd N m p q n k a b/\g+d.left=m/\0<=d.left/\Vl d.l/\1<=c.j
|.pad n k a b=>Hd N m p q n k a b/\g=m/\1<=c.j
|_=>True
def A6c (ph0 ro0:Nat) (c2:Cf) (N m p q g:Int):Evt->Prop
|.head n=>ph0=0/\c2.s.ph=1/\c2.ro<=ro0/\1<=n/\n<=65536/\∀ m p q g,EI c2 n m p q g
|.block k a b=>ph0=1/\c2.s.ph=2/\c2.ro<=ro0/\EI c2 N k a b 0/\Hd N k a b N k a b
|.bytes t=>ph0=2/\c2.s.ph=2/\c2.ro<=ro0/\g+t.length<=m/\m<=N/\Bytes t/\EI c2 N m p q (g+t.length)
|.bend k a b=>ph0=2/\c2.s.ph=1/\c2.ro+1<=ro0/\g=m/\Hd N m p q N m p q/\EI c2 N m p q g
|.tail s=>ph0=1/\c2.s.ph=1/\c2.ro<=ro0/\0<=s/\s < 4294967296/\EI c2 N m p q g
|.need=>c2.s.ph=ph0/\c2.ro<=ro0/\EI c2 N m p q g
|.fin=>ph0=1/\c2.s.ph=1/\c2.ro<=ro0/\EI c2 N m p q g
|_=>c2.s.ph=1/\c2.ro<=ro0/\EI c2 N m p q g
def EIo (ph0 ro0:Nat) (c2:Cf) (N m p q g:Int):Option Evt->Prop
|none=>c2.s.ph=ph0/\c2.ro<=ro0/\EI c2 N m p q g
|some ev=>A6c ph0 ro0 c2 N m p q g ev
theorem A3N {R:I_} (h:Bytes R) (k:Nat):Bytes (R.drop k):=fun x hx=>h x (List.mem_of_mem_drop hx)
theorem EI.step {c:Cf} {N m p q g:Int} (h:EI c N m p q g):EIo c.s.ph c.ro (AB c).2 N m p q g (AB c).1:=by
 obtain ⟨s,R,j⟩:=c;obtain ⟨hb,hj0,h⟩:=h;simp only at hb hj0;cases s with
|head t =>
  simp only at h;cases R with
 |nil=>exact ⟨rfl,by simp [Cf.ro,PS.ph,AB],hb,hj0,trivial⟩
 |cons x R =>
   have h0:=hb x (by simp);have hb2:Bytes R:=fun y hy=>hb y (List.mem_cons_of_mem _ hy);have hok:=HT.step_ok h h0.1 (show x<=255 by omega);simp only [AB];cases hr:t.step x with
  |go t2=>rw [hr] at hok;exact ⟨rfl,by simp [Cf.ro,PS.ph,Qs],hb2,Nat.zero_le _,hok⟩
  |done n=>rw [hr] at hok;exact ⟨rfl,rfl,by simp [Cf.ro,PS.ph,Qs],hok.1,hok.2,fun _ _ _ _=>⟨hb2,Nat.zero_le _,rfl,hok.1,hok.2,trivial⟩⟩
  |bad e=>exact ⟨rfl,by simp [Cf.ro,PS.ph,Qs],hb2,Nat.zero_le _,trivial⟩
|mark n t =>
  simp only at h;obtain ⟨rfl,n1,n2,ho⟩:=h;cases R with
 |nil=>exact ⟨rfl,by simp [Cf.ro,PS.ph,AB],hb,hj0,trivial⟩
 |cons x R =>
   have h0:=hb x (by simp);have hb2:Bytes R:=fun y hy=>hb y (List.mem_cons_of_mem _ hy);have hok:=MT.step_ok n1 n2 ho h0.1 (show x<=255 by omega);simp only [AB];cases hr:MT.step n x t with
  |go t2=>rw [hr] at hok;exact ⟨rfl,by simp [Cf.ro,PS.ph,MX],hb2,Nat.zero_le _,rfl,n1,n2,hok⟩
  |block k a b =>
    rw [hr] at hok;obtain ⟨k1,k2,a1,a2,b1,b2⟩:=hok;exact ⟨rfl,rfl,by simp [Cf.ro,PS.ph,MX],⟨hb2,Nat.zero_le _,⟨rfl,n1,n2,rfl,rfl,rfl,k1,k2,a1,a2,b1,b2⟩,rfl⟩,⟨rfl,n1,n2,rfl,rfl,rfl,k1,k2,a1,a2,b1,b2⟩⟩
  |tail s=>rw [hr] at hok;exact ⟨rfl,rfl,by simp [Cf.ro,PS.ph,MX],hok.1,hok.2,hb2,Nat.zero_le _,trivial⟩
  |bad=>exact ⟨rfl,by simp [Cf.ro,PS.ph,MX],hb2,Nat.zero_le _,trivial⟩
|table n k a b t =>
  obtain ⟨hh,rfl⟩:=h;simp only [AB];split
  ·rename_i hj;rw [Oj];split
   ·split
    ·have hm:dNew k=⟨new,k,0,0,false⟩:=Oi (by have:=hh.2.2.2.2.2.2;omega) (by have:=hh.2.2;omega);exact ⟨rfl,Nat.le_refl _,hb,hj,hh,by rw [hm];simp only;have:=hh.2.2.2.1;omega,by rw [hm];simp only;have:=hh.2.2.2.2.2.2;omega,by rw [hm];exact A1E,by simp⟩
    ·exact ⟨rfl,Nat.le_refl _,hb,hj,hh,rfl⟩
   ·exact ⟨rfl,by simp [Cf.ro,PS.ph],hb,hj,trivial⟩
  ·exact ⟨rfl,by simp [Cf.ro,PS.ph],hb,hj0,trivial⟩
|syms n k a b L u i d =>
  obtain ⟨hh,hg,hl,hv,hj1⟩:=h;simp only [AB];split
  ·rename_i hj;rw [eY];split
   ·have hd:=Xv d (pfs L u i (AP R j)).2.2.1;have hdb:=eU hv (pfs L u i (AP R j)).2.2.1;have hdv:=Xu hv (pfs L u i (AP R j)).2.2.1;generalize FY d (pfs L u i (AP R j)).2.2.1=o at *;rw [MQ];split
    ·rename_i h0;obtain ⟨h1,h2,h3⟩:=hd h0;have hmN:=hh;obtain ⟨e1,_,_,e2,_,_,_,e3,_⟩:=hmN;by_cases ht:0 < o.2.1.length
     ·rw [if_pos ht];cases hf:o.2.2.1 with
     |true=>have:=h3 hf;exact ⟨rfl,rfl,Nat.le_refl _,by omega,by omega,hdb,hb,hj,hh,by omega,by simp⟩
     |false=>exact ⟨rfl,rfl,Nat.le_refl _,by omega,by omega,hdb,hb,hj,hh,by omega,h2,hdv,by simp⟩
     ·rw [if_neg ht];cases hf:o.2.2.1 with
     |true=>have:=h3 hf;exact ⟨rfl,Nat.le_refl _,hb,hj,hh,by omega,by simp⟩
     |false=>exact ⟨rfl,Nat.le_refl _,hb,hj,hh,by omega,h2,hdv,by simp⟩
    ·exact ⟨rfl,by simp [Cf.ro,PS.ph],hb,hj,trivial⟩
   ·exact ⟨rfl,Nat.le_refl _,hb,hj,hh,hg,hl,hv,by simp⟩
  ·exact ⟨rfl,by simp [Cf.ro,PS.ph],hb,hj0,trivial⟩
|pad n k a b =>
  obtain ⟨hh,hg,hj1⟩:=h;simp only at hj1;simp only [AB];split
  ·obtain ⟨rfl,n1,n2,rfl,rfl,rfl,h2⟩:=hh;exact ⟨rfl,rfl,by simp [Cf.ro,PS.ph]<;>omega,hg,⟨rfl,n1,n2,rfl,rfl,rfl,h2⟩,A3N hb _,Nat.zero_le _,rfl,n1,n2,trivial⟩
  ·exact ⟨rfl,by simp [Cf.ro,PS.ph]<;>omega,A3N hb _,Nat.zero_le _,trivial⟩
|behind =>
  simp only [AB];split
  ·exact ⟨rfl,Nat.le_refl _,hb,hj0,trivial⟩
  ·exact ⟨rfl,rfl,Nat.le_refl _,hb,hj0,trivial⟩
|over=>exact ⟨rfl,rfl,Nat.le_refl _,hb,hj0,trivial⟩
|bad e=>exact ⟨rfl,Nat.le_refl _,hb,hj0,trivial⟩
theorem EI.A6l (h:EI c N m p q g):EIo c.s.ph c.ro (RJ en c).2 N m p q g (RJ en c).1:=by
 unfold RJ;split
 ·exact ⟨rfl,Nat.le_refl _,h⟩
 ·exact h.step
theorem A6c.mono {ev:Evt} (h:A6c ph0 ro0 c2 N m p q g ev) (hr:ro0<=ro1):A6c ph0 ro1 c2 N m p q g ev:=by
 cases ev with
|head n=>exact ⟨h.1,h.2.1,Nat.le_trans h.2.2.1 hr,h.2.2.2⟩
|block k a b=>exact ⟨h.1,h.2.1,Nat.le_trans h.2.2.1 hr,h.2.2.2⟩
|bytes t=>exact ⟨h.1,h.2.1,Nat.le_trans h.2.2.1 hr,h.2.2.2⟩
|bend k a b=>exact ⟨h.1,h.2.1,Nat.le_trans h.2.2.1 hr,h.2.2.2⟩
|tail s=>exact ⟨h.1,h.2.1,Nat.le_trans h.2.2.1 hr,h.2.2.2⟩
|need=>exact ⟨h.1,Nat.le_trans h.2.1 hr,h.2.2⟩
|fin=>exact ⟨h.1,h.2.1,Nat.le_trans h.2.2.1 hr,h.2.2.2⟩
|bad e=>exact ⟨h.1,Nat.le_trans h.2.1 hr,h.2.2⟩
theorem NxE.ei {ev:Evt} (h:NxE en c ev c2) (hi:EI c N m p q g):A6c c.s.ph c.ro c2 N m p q g ev:=by
 induction h with
|now h=>have:=hi.A6l (en:=en);rwa [h] at this
|later h _ ih =>
  have:=hi.A6l (en:=en);rw [h] at this;have h2:=ih this.2.2;rw [this.1] at h2;exact h2.mono this.2.1
theorem A5o (c:Cf):(AB c).1 ≠ some .need:=by
 obtain ⟨s,R,j⟩:=c;cases s with
|head t =>
  cases R with
 |nil=>simp [AB]
 |cons x R=>simp only [AB];cases t.step x<;>simp [Qs]
|mark n t =>
  cases R with
 |nil=>simp [AB]
 |cons x R=>simp only [AB];cases t.step n x<;>simp [MX]
|table n k a b t =>
  simp only [AB];split
  ·rw [Oj];split
   ·split<;>simp
   ·simp
  ·simp
|syms n k a b L u i d =>
  simp only [AB];split
  ·rw [eY];split
   ·rw [MQ];split
    ·split<;>simp
    ·simp
   ·simp
  ·simp
|pad n k a b=>simp only [AB];split<;>simp
|behind=>simp only [AB];split<;>simp
|over=>simp [AB]
|bad e=>simp [AB]
theorem NxE.A6q {ev:Evt} (h:NxE true c ev c2):ev ≠ .need:=by
 induction h with
|now h =>
  rintro rfl;have:RJ true=AB:=rfl;rw [this] at h;exact A5o _ (by rw [h])
|later _ _ ih=>exact ih
end Go.Proofs.YtkpbhdhkdonghaaGreat
