/-
  Part 20 of the proof.
-/
import Derived.Test.YtkpbhdhkdonghaaGreatA14
import Derived.Test.YtkpbhdhkdonghaaGreatA16
import Derived.Test.YtkpbhdhkdonghaaGreatA19
set_option linter.all false
set_option maxHeartbeats 4000000
set_option maxRecDepth 100000
set_option linter.all false
namespace Go.Proofs.YtkpbhdhkdonghaaGreat
open Go Go.RowKit
inductive Evt where
|head (n:Int)
|block (m p s:Int)
|bytes (t:I_)
|U5 (m p s:Int)
|tail (s:Int)
|fin
|bad (e:Int)
|need
inductive PS where
|head (t:HT)
|mark (n:Int) (t:MT)
|table (n m p s:Int) (t:TT)
|syms (n m p s:Int) (L:I_) (c:Int) (k:Nat) (b:DS)
|pad (n m p s:Int)
|behind
|over
|bad (e:Int)
structure Cf where
 s:PS
 R:I_
 j:Nat
def zpad (R:I_) (j:Nat):Bool:=(List.range (8 * ((j+7) / 8) - j)).all fun i=>AP R (j+i)=0
def Oj (n m p s:Int) (t:TT) (R:I_) (j:Nat):Option Evt × Cf :=
 if (t.next (AP R j)).2 then (if (t.next (AP R j)).1.s=258 then (none,⟨.syms n m p s (t.next (AP R j)).1.l 0 0 (dNew m),R,j+1⟩) else (none,⟨.table n m p s (t.next (AP R j)).1,R,j+1⟩)) else (some (.bad 100),⟨.bad 100,R,j+1⟩)
def MQ (n m p s:Int) (L:I_) (c:Int) (k:Nat) (d:DS × I_ × Bool × Int) (R:I_) (j:Nat):Option Evt × Cf :=
 if d.2.2.2=0 then (if 0 < d.2.1.length then some (.bytes d.2.1) else none,⟨if d.2.2.1 then .pad n m p s else .syms n m p s L c k d.1,R,j⟩) else (some (.bad d.2.2.2),⟨.bad d.2.2.2,R,j⟩)
def eY (n m p s:Int) (L:I_) (c:Int) (k:Nat) (b:DS) (R:I_) (j:Nat):Option Evt × Cf :=
 if (pfs L c k (AP R j)).2.2.2=true then MQ n m p s L (pfs L c k (AP R j)).1 (pfs L c k (AP R j)).2.1 (FY b (pfs L c k (AP R j)).2.2.1) R (j+1) else (none,⟨.syms n m p s L (pfs L c k (AP R j)).1 (pfs L c k (AP R j)).2.1 b,R,j+1⟩)
def Qs (r:HR) (R:I_) (j:Nat):Option Evt × Cf:=match r with
|.go t=>(none,⟨.head t,R,j⟩)
|.done n=>(some (.head n),⟨.mark n .mark,R,j⟩)
|.bad e=>(some (.bad e),⟨.bad e,R,j⟩)
def MX (n:Int) (r:MR) (R:I_) (j:Nat):Option Evt × Cf:=match r with
|.go t=>(none,⟨.mark n t,R,j⟩)
|.block m p s=>(some (.block m p s),⟨.table n m p s TT0,R,j⟩)
|.tail s=>(some (.tail s),⟨.behind,R,j⟩)
|.bad=>(some (.bad 242),⟨.bad 242,R,j⟩)
def AB (c:Cf):Option Evt × Cf:=match c.s with
|.head t=>match c.R with
 |[]=>(some (.bad 50),⟨.bad 50,c.R,c.j⟩)
 |x::R=>Qs (t.step x) R 0
|.mark n t=>match c.R with
 |[]=>(some (.bad 50),⟨.bad 50,c.R,c.j⟩)
 |x::R=>MX n (t.step n x) R 0
|.table n m p s t=>if c.j < 8 * c.R.length then Oj n m p s t c.R c.j else (some (.bad 50),⟨.bad 50,c.R,c.j⟩)
|.syms n m p s L q k b=>if c.j < 8 * c.R.length then eY n m p s L q k b c.R c.j else (some (.bad 50),⟨.bad 50,c.R,c.j⟩)
|.pad n m p s=>if zpad c.R c.j then (some (.U5 m p s),⟨.mark n .mark,c.R.drop ((c.j+7) / 8),0⟩) else (some (.bad 160),⟨.bad 160,c.R.drop ((c.j+7) / 8),0⟩)
|.behind=>if 0 < c.R.length then (some (.bad 261),⟨.bad 261,c.R,c.j⟩) else (some .fin,⟨.over,c.R,c.j⟩)
|.over=>(some .fin,c)
|.bad e=>(some (.bad e),c)
def Cf.mu (c:Cf):Nat:=match c.s with
|.head _=>8 * c.R.length+1
|.mark _ _=>8 * c.R.length+1
|.table _ _ _ _ _=>8 * c.R.length - c.j+2
|.syms _ _ _ _ _ _ _ _=>8 * c.R.length - c.j+2
|.pad _ _ _ _=>8 * c.R.length - c.j+2
|.behind=>8 * c.R.length+1
|.over=>0
|.bad _=>0
def Evt.last:Evt->Bool
|.fin=>true
|.bad _=>true
|.need=>true
|_=>false
def H6:Option Evt->Bool
|none=>false
|some e=>e.last
theorem Ol (c:Cf) (h:H6 (AB c).1=false):(AB c).2.mu < c.mu:=by
 obtain ⟨s,R,j⟩:=c;cases s with
|head t =>
  cases R with
 |nil=>simp [AB,H6,Evt.last] at h
 |cons x R =>
   simp only [AB] at h ⊢;cases hr:t.step x<;>simp [Qs,H6,Evt.last,Cf.mu] at h ⊢<;>try omega
|mark n t =>
  cases R with
 |nil=>simp [AB,H6,Evt.last] at h
 |cons x R =>
   simp only [AB] at h ⊢;cases hr:t.step n x<;>simp [MX,H6,Evt.last,Cf.mu] at h ⊢<;>try omega
|table n m p s t =>
  simp only [AB] at h ⊢;by_cases hj:j < 8 * R.length
  ·rw [if_pos hj] at h ⊢;simp only [Oj] at h ⊢;by_cases h1:(t.next (AP R j)).2=true
   ·rw [if_pos h1] at h ⊢;by_cases h2:(t.next (AP R j)).1.s=258
    ·rw [if_pos h2] at h ⊢;simp [Cf.mu];omega
    ·rw [if_neg h2] at h ⊢;simp [Cf.mu];omega
   ·rw [if_neg h1] at h;simp [H6,Evt.last] at h
  ·rw [if_neg hj] at h;simp [H6,Evt.last] at h
|syms n m p s L q k b =>
  simp only [AB] at h ⊢;by_cases hj:j < 8 * R.length
  ·rw [if_pos hj] at h ⊢;simp only [eY] at h ⊢;by_cases h1:(pfs L q k (AP R j)).2.2.2=true
   ·rw [if_pos h1] at h ⊢;generalize FY b (pfs L q k (AP R j)).2.2.1=d at *;simp only [MQ] at h ⊢;by_cases h2:d.2.2.2=0
    ·rw [if_pos h2] at h ⊢;cases d.2.2.1<;>simp [Cf.mu]<;>omega
    ·rw [if_neg h2] at h;simp [H6,Evt.last] at h
   ·rw [if_neg h1] at h ⊢;simp [Cf.mu];omega
  ·rw [if_neg hj] at h;simp [H6,Evt.last] at h
|pad n m p s =>
  simp only [AB] at h ⊢;by_cases h1:zpad R j=true
  ·rw [if_pos h1] at h ⊢;simp [Cf.mu];omega
  ·rw [if_neg h1] at h;simp [H6,Evt.last] at h
|behind =>
  simp only [AB] at h;split at h<;>simp [H6,Evt.last] at h
|over=>simp [AB,H6,Evt.last] at h
|bad e=>simp [AB,H6,Evt.last] at h
def starved (c:Cf):Bool:=match c.s with
|.head _=>c.R.isEmpty
|.mark _ _=>c.R.isEmpty
|.table _ _ _ _ _=>!decide (c.j < 8 * c.R.length)
|.syms _ _ _ _ _ _ _ _=>!decide (c.j < 8 * c.R.length)
|.behind=>c.R.isEmpty
|_=>false
def A7f (en:Bool) (c:Cf):Option Evt × Cf:=if (!en && starved c)=true then (some .need,c) else AB c
theorem A3I {en:Bool} (c:Cf) (h:H6 (A7f en c).1=false):(A7f en c).2.mu < c.mu:=by
 unfold A7f at h ⊢;split at h
 ·cases h
 ·rename_i hc;rw [if_neg hc];exact Ol c h
inductive NxE (en:Bool):Cf->Evt->Cf->Prop where
|now {c:Cf} {ev:Evt} {c2:Cf} (h:A7f en c=(some ev,c2)):NxE en c ev c2
|later {c:Cf} {ev:Evt} {c2:Cf} (h:(A7f en c).1=none) (hn:NxE en (A7f en c).2 ev c2):NxE en c ev c2
theorem NxE.mu {en:Bool} {c c2:Cf} {ev:Evt} (h:NxE en c ev c2) (hl:ev.last=false):c2.mu < c.mu:=by
 induction h with
|now h=>have:=A3I _ (by rw [h];exact hl);rwa [h] at this
|later h _ ih=>have:=A3I _ (by rw [h];rfl);have:=ih hl;omega
open Go Tryz Go.RowKit
def BU (gr F:Nat) (en:Bool) (R:I_) (j:Nat) (rs RR:Rws):Prop:=∃ (X E:Rws) (v:Value) (used:Int),RR=(gr,RD v ((j % 8:Nat):Int) used en)::(X++(E++rs))/\Tail X v (R.drop (j / 8))/\Bytes R/\R.length<=F/\j<=8 * R.length/\0<=used/\(used+((8 * R.length - j:Nat):Int)=8 * F/\F<=1000)
def V4 (c:Cf) (k:Nat) (hs ms ts cs ds er:A_):Prop:=match c.s with
|.head t=>k=0/\c.j=0/\t.ok/\hs=t.v/\ms=MS 0 0 0 0 0 0 0
|.mark n t=>k=1/\c.j=0/\1<=n/\n<=65536/\t.ok n/\hs=HS 4 0 0 n/\ms=t.v
|.table n m p s t=>k=2/\1<=n/\n<=65536/\1<=m/\m<=n/\t.ok/\hs=HS 4 0 0 n/\ms=MS 4 0 0 m p s 4/\ts=t.v
|.syms n _ _ _ L q i b=>k=3/\1<=n/\n<=65536/\Uk L q i/\Vl b.l/\hs=HS 4 0 0 n/\cs=CS L q i/\ds=V b
|.pad n _ _ _=>k=4/\1<=n/\n<=65536/\hs=HS 4 0 0 n
|.behind=>k=5/\c.j=0
|.over=>k=6
|.bad e=>k=7/\er=ER e/\e ≠ 0
def Rel (gp gr F:Nat) (en:Bool) (rs:Rws) (c:Cf) (R:Rws):Prop:=∃ (k:Nat) (hs ms ts cs ds er:A_) (RR:Rws),R=(gp,PR (PT ((k:Nat)+1)) hs ms ts cs ds er)::RR/\k < 8/\PRz (PT ((k:Nat)+1)) hs ms ts cs ds er/\V4 c k hs ms ts cs ds er/\BU gr F en c.R c.j rs RR
def yR (X:Rws):Evt->Int->Int->Int->Int->Int->Value->Int->Prop
|.head n,kd,n2,_,_,_,_,_=>kd=2/\n2=n/\X=[]
|.block m p s,kd,_,m2,p2,s2,_,_=>kd=3/\m2=m/\p2=p/\s2=s/\X=[]
|.bytes t,kd,_,_,_,_,v,_=>kd=4/\0 < t.length/\Txt X v (vs .u8 t)
|.U5 _ _ _,kd,_,_,_,_,_,_=>kd=5/\X=[]
|.tail s,kd,_,_,_,s2,_,_=>kd=6/\s2=s/\X=[]
|.fin,kd,_,_,_,_,_,_=>kd=7/\X=[]
|.bad e,kd,_,_,_,_,_,e2=>kd=8/\e2=e/\e ≠ 0/\X=[]
|.need,kd,_,_,_,_,_,_=>kd=1/\X=[]
def EvtO (X:Rws) (o:Option Evt) (kd n m p s:Int) (v:Value) (e:Int):Prop:=match o with
|none=>X=[]
|some ev=>yR X ev kd n m p s v e
def CPo (gp gr F:Nat) (en:Bool) (rs:Rws) (w0:World) (ss:List Sl) (c:Cf) (x:Ending) (w':World):Prop:=∃ kd n m p s v e X R,x=.returned (.tuple #[.agg (EVT kd n m p s v e),.bool (A7f en c).1.isSome])/\v.oneCell'=true/\Own w0 w' (X++R) ss/\Rel gp gr F en rs (A7f en c).2 R/\EvtO X (A7f en c).1 kd n m p s v e
theorem A21 (R:I_) (j:Nat) (hj:j < 8 * R.length):pk (R.drop (j / 8)) (j % 8) 1=AP R j:=by
 have h1:(j % 8+1+7) / 8=1:=by omega
 have h2:1 * 8 - j % 8 - 1=7 - j % 8:=by omega
 have h3:j / 8 < R.length:=by omega
 rw [pk,h1,h2,AP]
 exact xc7
theorem A05 (x:Int) (R:I_) (h0:0<=x) (h1:x<=255):pk (x::R) 0 8=x:=by
 have:x % 256=x:=by omega
 simpa [pk,big] using this
theorem Own.jA {w0 w:World} {g p q:Nat × A_} {X rs:Rws} {ss:List Sl} (h:Own w0 w (g::p::q::(X++rs)) ss):Own w0 w (p::q::(X++(g::rs))) ss:=h.perm (List.perm_middle (l₁:=p::q::X))
theorem Own.Xj {w0 w:World} {g p q:Nat × A_} {X rs:Rws} {ss:List Sl} (h:Own w0 w (p::q::(X++(g::rs))) ss):Own w0 w (g::p::q::(X++rs)) ss:=h.perm (List.perm_middle (l₁:=p::q::X)).symm
section
variable {gp gr F:Nat} {en:Bool} {pt hs ms ts cs ds er:A_} {R:I_} {j:Nat} {rs RR:Rws} {w0:World} {ss:List Sl}
theorem take1 (hz:PRz pt hs ms ts cs ds er) (hr:BU gr F en R j rs RR) (hj:j < 8 * R.length):∀ W g,Own w0 W (g::(gp,PR pt hs ms ts cs ds er)::RR) ss->Calls prog 124 #[.pointer (some ⟨gp,0,none⟩),.pointer (some ⟨gr,0,none⟩),.int .i64 1] W fun x w'=>(x=.returned (.tuple #[.int .u32 (AP R j),.agg (EVT 0 0 0 0 0 (.slice none 0 0) 0),.bool true]))/\∃ RR',BU gr F en R (j+1) rs RR'/\Own w0 w' (g::(gp,PR pt hs ms ts cs ds er)::RR') ss:=by
 intro W g hm;obtain ⟨X,E,v,used,rfl,ht,hB,hl,_,hu0,hu⟩:=hr;refine (ig gp gr pt hs ms ts cs ds er X v (R.drop (j / 8)) (j % 8) 1 used en w0 W (g::(E++rs)) ss hm.jA hz ht (by simp;omega) (by omega) (by omega) (by omega) hu0 (by omega) (fun x hx=>hB x (List.mem_of_mem_drop hx)) (by simp;omega)).mono ?_;rintro x w' ⟨rfl,v2,ht2,hm2⟩;rw [A21 R j hj];refine ⟨rfl,_,⟨X,E,v2,used+1,?_,?_,hB,hl,by omega,by omega,by omega⟩,hm2.Xj⟩
 ·have e:(j % 8+1) % 8=(j+1) % 8:=by omega
  rw [e];rfl
 ·have e:(R.drop (j / 8)).drop ((j % 8+1) / 8)=R.drop ((j+1) / 8):=by
   rw [List.drop_drop];congr 1;omega
  rwa [e] at ht2
theorem take8 (hz:PRz pt hs ms ts cs ds er) {y:Int} (hr:BU gr F en (y::R) 0 rs RR):∀ W g,Own w0 W (g::(gp,PR pt hs ms ts cs ds er)::RR) ss->Calls prog 124 #[.pointer (some ⟨gp,0,none⟩),.pointer (some ⟨gr,0,none⟩),.int .i64 8] W fun x w'=>(x=.returned (.tuple #[.int .u32 y,.agg (EVT 0 0 0 0 0 (.slice none 0 0) 0),.bool true]))/\∃ RR',BU gr F en R 0 rs RR'/\Own w0 w' (g::(gp,PR pt hs ms ts cs ds er)::RR') ss:=by
 intro W g hm;obtain ⟨X,E,v,used,rfl,ht,hB,hl,_,hu0,hu⟩:=hr;have hy:=hB y (by simp);simp only [List.length_cons] at hl hu;refine (ig gp gr pt hs ms ts cs ds er X v (y::R) 0 8 used en w0 W (g::(E++rs)) ss hm.jA hz ht (by simp;omega) (by omega) (by omega) (by omega) hu0 (by omega) hB (by simp;omega)).mono ?_;rintro x w' ⟨rfl,v2,ht2,hm2⟩;rw [A05 y R hy.1 (by omega)];exact ⟨rfl,_,⟨X,E,v2,used+8,rfl,ht2,fun x hx=>hB x (List.mem_cons_of_mem _ hx),by omega,by omega,by omega,by omega⟩,hm2.Xj⟩
theorem take0 (n:Nat) (hn:1<=n) (hn8:n<=8) (hz:PRz pt hs ms ts cs ds er) (hr:BU gr F true R j rs RR) (hj:¬ j < 8 * R.length):∀ W g,Own w0 W (g::(gp,PR pt hs ms ts cs ds er)::RR) ss->Calls prog 124 #[.pointer (some ⟨gp,0,none⟩),.pointer (some ⟨gr,0,none⟩),.int .i64 n] W fun x w'=>(x=.returned (.tuple #[.int .u32 0,.agg (EVT 8 0 0 0 0 (.slice none 0 0) 50),.bool false]))/\∃ RR',BU gr F true R j rs RR'/\Own w0 w' (g::(gp,PR (PT 8) hs ms ts cs ds (ER 50))::RR') ss:=by
 intro W g hm;obtain ⟨X,E,v,used,rfl,ht,hB,hl,hj2,hu0,hu⟩:=hr;have e:j % 8=0:=by omega
 refine (aS gp gr pt hs ms ts cs ds er X v (R.drop (j / 8)) (j % 8) n used true w0 W (g::(E++rs)) ss hm.jA hz ht (by simp;omega) (by omega) hn8 hn hu0 (by omega) (by simp;omega) rfl).mono ?_;exact xea
theorem takeN (n:Nat) (hn:1<=n) (hn8:n<=8) (hz:PRz pt hs ms ts cs ds er) (hr:BU gr F false R j rs RR) (hj:¬ j < 8 * R.length):∀ W g,Own w0 W (g::(gp,PR pt hs ms ts cs ds er)::RR) ss->Calls prog 124 #[.pointer (some ⟨gp,0,none⟩),.pointer (some ⟨gr,0,none⟩),.int .i64 n] W fun x w'=>(x=.returned (.tuple #[.int .u32 0,.agg (EVT 1 0 0 0 0 (.slice none 0 0) 0),.bool false]))/\∃ RR',BU gr F false R j rs RR'/\Own w0 w' (g::(gp,PR pt hs ms ts cs ds er)::RR') ss:=by
 intro W g hm;obtain ⟨X,E,v,used,rfl,ht,hB,hl,hj2,hu0,hu⟩:=hr;have e:j % 8=0:=by omega
 refine (A5H gp gr pt hs ms ts cs ds er X v (R.drop (j / 8)) (j % 8) n used false w0 W (g::(E++rs)) ss hm.jA hz ht (by simp;omega) (by omega) hn8 hn hu0 (by omega) (by simp;omega) rfl).mono ?_;exact xea
end
variable {pt:A_} {c c2:Cf} {t:HT} {e kd m n p s y:Int} {R2:I_} {j2 k:Nat}
section
variable {gp gr F:Nat} {en:Bool} {hs ms ts cs ds er:A_} {R:I_} {j:Nat} {rs RR:Rws} {w0 w w':World} {ss:List Sl}
theorem CPo.of {o:Option Evt} {v:Value} (hc:A7f en c=(o,c2)) (hv:v.oneCell'=true) (hm:Own w0 w' ((gp,PR (PT ((k:Nat)+1)) hs ms ts cs ds er)::RR) ss) (hk:k < 8) (hz:PRz (PT ((k:Nat)+1)) hs ms ts cs ds er) (hp:V4 c2 k hs ms ts cs ds er) (hr:BU gr F en c2.R c2.j rs RR) (he:EvtO [] o kd n m p s v e):CPo gp gr F en rs w0 ss c (.returned (.tuple #[.agg (EVT kd n m p s v e),.bool o.isSome])) w':=by
 unfold CPo;rw [hc];exact ⟨kd,n,m,p,s,v,e,[],_,rfl,hv,hm,⟨k,hs,ms,ts,cs,ds,er,RR,rfl,hk,hz,hp,hr⟩,he⟩
theorem CPo.bad (hc:A7f en c=(some (.bad e),⟨.bad e,R2,j2⟩)) (hm:Own w0 w' ((gp,PR (PT 8) hs ms ts cs ds (ER e))::RR) ss) (hz:hs.size=4/\ms.size=7/\ts.size=262/\cs.size=260/\ds.size=260) (hr:BU gr F en R2 j2 rs RR) (h0:e ≠ 0:=by decide):CPo gp gr F en rs w0 ss c (.returned (.tuple #[.agg (EVT 8 n m p s (.slice none 0 0) e),.bool true])) w' :=
 CPo.of (k:=7) hc rfl hm (by omega) ⟨rfl,hz.1,hz.2.1,hz.2.2.1,hz.2.2.2.1,hz.2.2.2.2,rfl⟩ ⟨rfl,rfl,h0⟩ hr ⟨rfl,rfl,h0,rfl⟩
theorem PRz.five (hz:PRz pt hs ms ts cs ds er):hs.size=4/\ms.size=7/\ts.size=262/\cs.size=260/\ds.size=260:=⟨hz.hs,hz.ms,hz.ts,hz.cs,hz.ds⟩
theorem BU.bd (hr:BU gr F en (y::R) j rs RR):0<=y/\y<=255:=by
 obtain ⟨X,E,v,used,_,_,hB,_⟩:=hr;have:=hB y (by simp);omega
theorem A0F (hm:Own w0 w ((gp,PR (PT 1) hs ms ts cs ds er)::RR) ss) (hz:PRz (PT 1) hs ms ts cs ds er) (hp:V4 ⟨.head t,R,j⟩ 0 hs ms ts cs ds er) (hr:BU gr F en R j rs RR):Calls prog 78 #[.pointer (some ⟨gp,0,none⟩),.pointer (some ⟨gr,0,none⟩)] w (CPo gp gr F en rs w0 ss ⟨.head t,R,j⟩):=by
 have hp0:=hp;obtain ⟨_,hj,ho,rfl,rfl⟩:=hp;obtain rfl:j=0:=hj;cases R with
|nil =>
  cases en with
 |true =>
   refine (sW gp _ _ _ _ _ _ _ _ RR w0 w ss hm (BU gr F true [] 0 rs) 8 50 _ (h_ (take0 8 (by omega) (by omega) hz hr (by simp)))).mono ?_;exact xfg
 |false =>
   refine (sW gp _ _ _ _ _ _ _ _ RR w0 w ss hm (BU gr F false [] 0 rs) 1 0 _ (h_ (takeN 8 (by omega) (by omega) hz hr (by simp)))).mono ?_;rintro x w' ⟨rfl,RR',hQ,hm⟩;exact CPo.of (k:=0) (c2:=⟨.head t,[],0⟩) (o:=some .need) rfl rfl hm (by omega) hz hp0 hQ ⟨rfl,rfl⟩
|cons y R =>
  have CT:=h_ (take8 (gp:=gp) (w0:=w0) (ss:=ss) hz hr);obtain ⟨c0,c1⟩:=hr.bd;have CS:=fun w=>VA t ho y c0 c1 w;have hok:=HT.step_ok ho c0 c1;cases ht:t.step y with
 |go t2 =>
   rw [ht] at hok;simp only [ht] at CS;refine (vX gp t.a t.V t.M y t2.a t2.V t2.M c0 c1 _ _ _ ts cs ds er RR w0 w ss hm (BU gr F en R 0 rs) CT (h_ CS) hz).mono ?_;rintro x w' ⟨rfl,RR',hQ,hm⟩;exact CPo.of (k:=0) (c2:=⟨.head t2,R,0⟩) (o:=none) (by simp [A7f,starved,AB,ht,Qs]) rfl hm (by omega) ⟨rfl,rfl,hz.ms,hz.ts,hz.cs,hz.ds,hz.er⟩ ⟨rfl,rfl,hok,rfl,rfl⟩ hQ rfl
 |done n =>
   rw [ht] at hok;simp only [ht] at CS;refine (dV gp t.a t.V t.M y n c0 c1 _ _ _ ts cs ds er RR w0 w ss hm (BU gr F en R 0 rs) CT (h_ CS) hz).mono ?_;rintro x w' ⟨rfl,RR',hQ,hm⟩;exact CPo.of (k:=1) (c2:=⟨.mark n .mark,R,0⟩) (o:=some (.head n)) (by simp [A7f,starved,AB,ht,Qs]) rfl hm (by omega) ⟨rfl,rfl,hz.ms,hz.ts,hz.cs,hz.ds,hz.er⟩ ⟨rfl,rfl,hok.1,hok.2,trivial,rfl,rfl⟩ hQ ⟨rfl,rfl,rfl⟩
 |bad e =>
   rw [ht] at hok;simp only [ht] at CS;have he:e ≠ 0:=by rcases hok with h|h|h<;>omega
   refine (nG gp t.a t.V t.M y e c0 c1 _ _ _ ts cs ds er RR w0 w ss hm (BU gr F en R 0 rs) CT (h_ CS) hz he).mono ?_;rintro x w' ⟨rfl,RR',hQ,hm⟩;exact CPo.bad (by simp [A7f,starved,AB,ht,Qs]) hm hz.five hQ he
theorem MT.qK (t:MT):∃ a V M m p s k,t.v=MS a V M m p s k:=by cases t<;>exact ⟨_,_,_,_,_,_,_,rfl⟩
theorem A0E {t:MT} (hm:Own w0 w ((gp,PR (PT 2) hs ms ts cs ds er)::RR) ss) (hz:PRz (PT 2) hs ms ts cs ds er) (hp:V4 ⟨.mark n t,R,j⟩ 1 hs ms ts cs ds er) (hr:BU gr F en R j rs RR):Calls prog 80 #[.pointer (some ⟨gp,0,none⟩),.pointer (some ⟨gr,0,none⟩)] w (CPo gp gr F en rs w0 ss ⟨.mark n t,R,j⟩):=by
 have hp0:=hp;obtain ⟨_,hj,n1,n2,ho,rfl,rfl⟩:=hp;obtain rfl:j=0:=hj;cases R with
|nil =>
  cases en with
 |true =>
   refine (sV gp _ _ _ _ _ _ _ _ RR w0 w ss hm (BU gr F true [] 0 rs) 8 50 _ (h_ (take0 8 (by omega) (by omega) hz hr (by simp)))).mono ?_;exact xfg
 |false =>
   refine (sV gp _ _ _ _ _ _ _ _ RR w0 w ss hm (BU gr F false [] 0 rs) 1 0 _ (h_ (takeN 8 (by omega) (by omega) hz hr (by simp)))).mono ?_;rintro x w' ⟨rfl,RR',hQ,hm⟩;exact CPo.of (k:=1) (c2:=⟨.mark n t,[],0⟩) (o:=some .need) rfl rfl hm (by omega) hz hp0 hQ ⟨rfl,rfl⟩
|cons y R =>
  have CT:=h_ (take8 (gp:=gp) (w0:=w0) (ss:=ss) hz hr);obtain ⟨c0,c1⟩:=hr.bd;have CS:=fun w=>Vo n n1 n2 t ho y c0 c1 w;have hok:=MT.step_ok n1 n2 ho c0 c1;obtain ⟨a,V,M,m,p,s,k,hv⟩:=MT.qK t;rw [hv] at CT hm hz;simp only [hv] at CS;cases ht:MT.step n y t with
 |go t2 =>
   obtain ⟨a2,V2,M2,m2,p2,s2,k2,hv2⟩:=MT.qK t2;rw [ht] at hok;simp only [ht,MR.val,hv2] at CS;refine (uV gp n a V M m p s k y a2 V2 M2 m2 p2 s2 k2 c0 c1 _ _ ts cs ds er RR w0 w ss hm (BU gr F en R 0 rs) CT (h_ CS) hz).mono ?_;rintro x w' ⟨rfl,RR',hQ,hm⟩;exact CPo.of (k:=1) (c2:=⟨.mark n t2,R,0⟩) (o:=none) (by simp [A7f,starved,AB,ht,MX]) rfl hm (by omega) ⟨rfl,rfl,rfl,hz.ts,hz.cs,hz.ds,hz.er⟩ ⟨rfl,rfl,n1,n2,hok,rfl,hv2.symm⟩ hQ rfl
 |block m2 p2 s2 =>
   rw [ht] at hok;simp only [ht] at CS;refine (YK gp n a V M m p s k y 0 0 m2 p2 s2 4 c0 c1 _ _ ts cs ds er RR w0 w ss hm (BU gr F en R 0 rs) CT (h_ CS) hz).mono ?_;rintro x w' ⟨rfl,RR',hQ,hm⟩;exact CPo.of (k:=2) (c2:=⟨.table n m2 p2 s2 TT0,R,0⟩) (o:=some (.block m2 p2 s2)) (by simp [A7f,starved,AB,ht,MX]) rfl hm (by omega) ⟨rfl,rfl,rfl,Ju,hz.cs,hz.ds,hz.er⟩ ⟨rfl,n1,n2,hok.1,hok.2.1,XK,rfl,rfl,rfl⟩ hQ ⟨rfl,rfl,rfl,rfl,rfl⟩
 |tail s2 =>
   rw [ht] at hok;simp only [ht] at CS;refine (dJ gp n a V M m p s k y 0 0 0 0 s2 4 c0 c1 _ _ ts cs ds er RR w0 w ss hm (BU gr F en R 0 rs) CT (h_ CS) hz).mono ?_;rintro x w' ⟨rfl,RR',hQ,hm⟩;exact CPo.of (k:=5) (c2:=⟨.behind,R,0⟩) (o:=some (.tail s2)) (by simp [A7f,starved,AB,ht,MX]) rfl hm (by omega) ⟨rfl,rfl,rfl,hz.ts,hz.cs,hz.ds,hz.er⟩ ⟨rfl,rfl⟩ hQ ⟨rfl,rfl,rfl⟩
 |bad =>
   simp only [ht] at CS;refine (mQ gp n a V M m p s k y c0 c1 _ _ ts cs ds er RR w0 w ss hm (BU gr F en R 0 rs) CT (h_ CS) hz).mono ?_;rintro x w' ⟨rfl,RR',hQ,hm⟩;exact CPo.bad (by simp [A7f,starved,AB,ht,MX]) hm hz.five hQ
end
variable {c c2:Cf} {b:DS} {bit m n p q s:Int} {L T:I_} {i k:Nat} {t:TT}
section
variable {gp gr F:Nat} {en:Bool} {hs ms ts cs ds er:A_} {R:I_} {j:Nat} {rs RR:Rws} {w0 w w':World} {ss:List Sl}
theorem TT.ok.A24 (h:t.ok) (h0:0<=bit) (h1:bit<=1) (hk:(t.next bit).2=true):(t.next bit).1.l.length=258:=by
 rcases h.next h0 h1 hk with h|h
 ·exact h.2.len
 ·exact h.2.1
theorem Xw (h1:1<=m) (h2:m<=65536):Vl (dNew m).l:=by
 rw [Oi (by omega) (by omega)];exact A1E
theorem Xu (h:Vl b.l) (s:Int):Vl (FY b s).1.l:=by
 rw [FY];split
 ·split
  ·rw [G9];split
   ·exact h
   ·split
    ·exact h
    ·split
     ·exact h
     ·exact h.Ie _
  ·exact h
 ·exact h
theorem ZB (b:DS) (s:Int):(FY b s).2.1.length<=1000000:=by
 rw [FY];split
 ·rename_i h;obtain ⟨a1,a2,a3,a4,_⟩:=TL h.1;split
  ·rw [G9];split
   ·simp
   ·split
    ·simp [DS.rep];omega
    ·split
     ·simp
     ·simp [DS.rep];omega
  ·simp
 ·simp
theorem xq (hm:Own w0 w ((gp,PR (PT 3) hs ms ts cs ds er)::RR) ss) (hz:PRz (PT 3) hs ms ts cs ds er) (hp:V4 ⟨.table n m p s t,R,j⟩ 2 hs ms ts cs ds er) (hr:BU gr F en R j rs RR):Calls prog 82 #[.pointer (some ⟨gp,0,none⟩),.pointer (some ⟨gr,0,none⟩)] w (CPo gp gr F en rs w0 ss ⟨.table n m p s t,R,j⟩):=by
 have hp0:=hp;obtain ⟨_,n1,n2,m1,m2,ho,rfl,rfl,rfl⟩:=hp;by_cases hj:j < 8 * R.length
 ·have CT:=h_ (take1 (gp:=gp) (w0:=w0) (ss:=ss) hz hr hj);obtain ⟨c0,c1⟩:=KY R j;have CX:=fun w=>SK t (AP R j) ho c0 c1 w;by_cases h1:(t.next (AP R j)).2=true
  ·simp only [h1,if_true] at CX;have hlen:=ho.A24 c0 c1 h1;by_cases h2:(t.next (AP R j)).1.s=258
   ·have hn:=ho.next c0 c1 h1
    have hn2:(t.next (AP R j)).1.l.length=258/\Bytes (t.next (AP R j)).1.l/\JL (t.next (AP R j)).1.l=true:=by
     rcases hn with h|h
     ·omega
     ·exact h.2
    have e:((t.next (AP R j)).1.s == 258)=true:=by simp [h2]
    simp only [e] at CX;refine (XU gp (AP R j) 4 0 0 m p s 4 c0 c1 _ _ _ _ cs ds er RR w0 w ss hm (BU gr F en R (j+1) rs) CT _ (h_ CX) hz (Dy hlen) (Di _ _ _ _ _) (CS (t.next (AP R j)).1.l 0 0) (V (dNew m)) (J .u8 (t.next (AP R j)).1.l) (Jv hlen) (by rw [Df];exact hlen) (CU hlen) (Eb _ _ _) (FT (YS m)) (A35 _) (h_ (fun w=>Yh _ hn2.1 hn2.2.1 hn2.2.2 w)) (h_ (fun w=>Zx m w))).mono ?_;rintro x w' ⟨rfl,RR',hQ,hm⟩;exact CPo.of (k:=3) (c2:=⟨.syms n m p s (t.next (AP R j)).1.l 0 0 (dNew m),R,j+1⟩) (o:=none) (by simp [A7f,starved,AB,hj,Oj,h1,h2]) rfl hm (by omega) ⟨rfl,rfl,rfl,Dy hlen,CU hlen,FT (YS m),hz.er⟩ ⟨rfl,n1,n2,Uk.zero hn2.1 hn2.2.1 hn2.2.2,Xw m1 (by omega),rfl,rfl,rfl⟩ hQ rfl
   ·have hn:(t.next (AP R j)).1.ok:=by
     rcases ho.next c0 c1 h1 with h|h
     ·exact h.2
     ·exact absurd h.1 h2
    have e:((t.next (AP R j)).1.s == 258)=false:=by simp [h2]
    simp only [e] at CX;refine (kS gp (AP R j) c0 c1 _ _ _ _ _ cs ds er RR w0 w ss hm (BU gr F en R (j+1) rs) CT _ (h_ CX) hz (Dy hlen) (Di _ _ _ _ _)).mono ?_;rintro x w' ⟨rfl,RR',hQ,hm⟩;exact CPo.of (k:=2) (c2:=⟨.table n m p s (t.next (AP R j)).1,R,j+1⟩) (o:=none) (by simp [A7f,starved,AB,hj,Oj,h1,h2]) rfl hm (by omega) ⟨rfl,rfl,rfl,Dy hlen,hz.cs,hz.ds,hz.er⟩ ⟨rfl,n1,n2,m1,m2,hn,rfl,rfl,rfl⟩ hQ rfl
  ·simp only [h1,if_false,Bool.false_eq_true] at CX;refine (aT gp (AP R j) c0 c1 _ _ _ _ _ cs ds er RR w0 w ss hm (BU gr F en R (j+1) rs) CT _ (h_ CX) hz Ju XJ).mono ?_;rintro x w' ⟨rfl,RR',hQ,hm⟩;exact CPo.bad (by simp [A7f,starved,AB,hj,Oj,h1]) hm hz.five hQ
 ·cases en with
 |true =>
   refine (sU gp _ _ _ _ _ _ _ _ RR w0 w ss hm (BU gr F true R j rs) 8 50 _ (h_ (take0 1 (by omega) (by omega) hz hr hj))).mono ?_;exact xeg
 |false =>
   refine (sU gp _ _ _ _ _ _ _ _ RR w0 w ss hm (BU gr F false R j rs) 1 0 _ (h_ (takeN 1 (by omega) (by omega) hz hr hj))).mono ?_;rintro x w' ⟨rfl,RR',hQ,hm⟩;exact CPo.of (k:=2) (c2:=⟨.table n m p s t,R,j⟩) (o:=some .need) (by simp [A7f,starved,hj]) rfl hm (by omega) hz hp0 hQ ⟨rfl,rfl⟩
theorem Txt.slice {X:Rws} {v:Value} {T:I_} (h:Txt X v (vs .u8 T)):∃ a c,v=.slice a T.length c:=by
 rcases h with ⟨rfl,h,_⟩|⟨g,c,cells,_,rfl,_⟩
 ·have:T=[]:=by simpa [vs] using h
  exact ⟨none,0,by rw [this];rfl⟩
 ·exact ⟨_,c,by rw [Ai]⟩
theorem BU.more {X:Rws} (hr:BU gr F en R j rs RR) (hm:Own w0 w ((gp,cs)::(X++RR)) ss):∃ RR',BU gr F en R j rs RR'/\Own w0 w ((gp,cs)::RR') ss:=by
 obtain ⟨Y,E,v,used,rfl,h⟩:=hr;refine ⟨(gr,RD v ((j % 8:Nat):Int) used en)::(Y++((X++E)++rs)),⟨Y,X++E,v,used,rfl,h⟩,hm.perm (List.Perm.cons _ ?_)⟩;have h1:(X++(gr,RD v ((j % 8:Nat):Int) used en)::(Y++(E++rs))).Perm ((gr,RD v ((j % 8:Nat):Int) used en)::(X++(Y++(E++rs)))):=List.perm_middle;refine List.Perm.trans (List.Perm.cons _ ?_) h1.symm
 have h2:(X++(Y++(E++rs))).Perm (Y++(X++(E++rs))):=by
  rw [<- l_a,<- l_a Y];exact List.perm_append_comm.append_right _
 rw [l_a];exact h2.symm
theorem CPo.text {X:Rws} {v:Value} (hX:Txt X v (vs .u8 T)) (hc:A7f en c=(if 0 < T.length then some (.bytes T) else none,c2)) (hm:Own w0 w' ((gp,PR (PT ((k:Nat)+1)) hs ms ts cs ds er)::(X++RR)) ss) (hk:k < 8) (hz:PRz (PT ((k:Nat)+1)) hs ms ts cs ds er) (hp:V4 c2 k hs ms ts cs ds er) (hr:BU gr F en c2.R c2.j rs RR):CPo gp gr F en rs w0 ss c (.returned (.tuple #[.agg (EVT 4 0 0 0 0 v 0),.bool (decide (0 < T.length))])) w':=by
 have hv:v.oneCell'=true:=by obtain ⟨a,c,rfl⟩:=hX.slice;rfl
 by_cases h:0 < T.length
 ·rw [if_pos h] at hc;unfold CPo;rw [hc,decide_eq_true h];exact ⟨4,0,0,0,0,v,0,X,_,rfl,hv,hm.perm (List.perm_middle (l₁:=X)),⟨k,hs,ms,ts,cs,ds,er,RR,rfl,hk,hz,hp,hr⟩,rfl,h,hX⟩
 ·rw [if_neg h] at hc;rw [decide_eq_false h];obtain ⟨RR2,hr2,hm2⟩:=hr.more hm;exact CPo.of (o:=none) hc hv hm2 hk hz hp hr2 rfl
theorem A0C (hm:Own w0 w ((gp,PR (PT 4) hs ms ts cs ds er)::RR) ss) (hz:PRz (PT 4) hs ms ts cs ds er) (hp:V4 ⟨.syms n m p s L q i b,R,j⟩ 3 hs ms ts cs ds er) (hr:BU gr F en R j rs RR):Calls prog 84 #[.pointer (some ⟨gp,0,none⟩),.pointer (some ⟨gr,0,none⟩)] w (CPo gp gr F en rs w0 ss ⟨.syms n m p s L q i b,R,j⟩):=by
 have hp0:=hp;obtain ⟨_,n1,n2,ho,hv,rfl,rfl,rfl⟩:=hp;by_cases hj:j < 8 * R.length
 ·have CT:=h_ (take1 (gp:=gp) (w0:=w0) (ss:=ss) hz hr hj);obtain ⟨c0,c1⟩:=KY R j;have CF:=fun w=>A59 L q (AP R j) i ho c0 c1 w;have ho2:=ho.next c0 c1;have hb2:Vl (FY b (pfs L q i (AP R j)).2.2.1).1.l:=Xu hv _;by_cases h1:(pfs L q i (AP R j)).2.2.2=true
  ·simp only [h1] at CF;have CE:=fun w=>VJ b (pfs L q i (AP R j)).2.2.1 w hv.len hv.bytes;have hT:=ZB b (pfs L q i (AP R j)).2.2.1;have hc:A7f en ⟨.syms n m p s L q i b,R,j⟩=MQ n m p s L (pfs L q i (AP R j)).1 (pfs L q i (AP R j)).2.1 (FY b (pfs L q i (AP R j)).2.2.1) R (j+1):=by simp [A7f,starved,AB,hj,eY,h1]
   generalize (pfs L q i (AP R j)).2.2.1=sy at CF CE hc hT hb2;generalize FY b sy=d at CE hc hT hb2;obtain ⟨d1,T,f,e⟩:=d;by_cases h2:e=0
   ·subst h2;cases f with
   |false =>
     refine (Wv gp (AP R j) sy c0 c1 _ _ _ _ _ _ _ er RR w0 w ss hm (BU gr F en R (j+1) rs) CT _ (h_ CF) hz (CU ho.len) (Eb _ _ _) (V d1) T hT (h_ CE) (FT hb2.len) (A35 _)).mono ?_;rintro x w' ⟨v,X,RR',rfl,hX,hQ,hm⟩;exact CPo.text (k:=3) (c2:=⟨.syms n m p s L (pfs L q i (AP R j)).1 (pfs L q i (AP R j)).2.1 d1,R,j+1⟩) hX (by rw [hc];simp [MQ]) hm (by omega) ⟨rfl,rfl,hz.ms,hz.ts,CU ho.len,FT hb2.len,hz.er⟩ ⟨rfl,n1,n2,ho2,hb2,rfl,rfl,rfl⟩ hQ
   |true =>
     refine (XV gp (AP R j) sy c0 c1 _ _ _ _ _ _ _ er RR w0 w ss hm (BU gr F en R (j+1) rs) CT _ (h_ CF) hz (CU ho.len) (Eb _ _ _) (V d1) T hT (h_ CE) (FT hb2.len) (A35 _)).mono ?_;rintro x w' ⟨v,X,RR',rfl,hX,hQ,hm⟩;exact CPo.text (k:=4) (c2:=⟨.pad n m p s,R,j+1⟩) hX (by rw [hc];simp [MQ]) hm (by omega) ⟨rfl,rfl,hz.ms,hz.ts,CU ho.len,FT hb2.len,hz.er⟩ ⟨rfl,n1,n2,rfl⟩ hQ
   ·refine (XW gp (AP R j) sy e c0 c1 _ _ _ _ _ _ _ er RR w0 w ss hm (BU gr F en R (j+1) rs) CT _ (h_ CF) hz (CU ho.len) (Eb _ _ _) f (V d1) T hT (h_ CE) (FT hb2.len) (A35 _) h2).mono ?_;rintro x w' ⟨rfl,X,RR',hQ,hm⟩;obtain ⟨RR2,hQ2,hm2⟩:=hQ.more hm;exact CPo.bad (by rw [hc];simp [MQ,h2]) hm2 ⟨rfl,hz.ms,hz.ts,CU ho.len,hz.ds⟩ hQ2 h2
  ·simp only [h1] at CF;refine (Wx gp (AP R j) _ c0 c1 _ _ _ _ _ _ _ er RR w0 w ss hm (BU gr F en R (j+1) rs) CT _ (h_ CF) hz (CU ho.len) (Eb _ _ _)).mono ?_;rintro x w' ⟨rfl,RR',hQ,hm⟩;exact CPo.of (k:=3) (c2:=⟨.syms n m p s L (pfs L q i (AP R j)).1 (pfs L q i (AP R j)).2.1 b,R,j+1⟩) (o:=none) (by simp [A7f,starved,AB,hj,eY,h1]) rfl hm (by omega) ⟨rfl,rfl,hz.ms,hz.ts,CU ho.len,hz.ds,hz.er⟩ ⟨rfl,n1,n2,ho2,hv,rfl,rfl,rfl⟩ hQ rfl
 ·cases en with
 |true =>
   refine (sS gp _ _ _ _ _ _ _ _ RR w0 w ss hm (BU gr F true R j rs) 8 50 _ (h_ (take0 1 (by omega) (by omega) hz hr hj))).mono ?_;exact xeg
 |false =>
   refine (sS gp _ _ _ _ _ _ _ _ RR w0 w ss hm (BU gr F false R j rs) 1 0 _ (h_ (takeN 1 (by omega) (by omega) hz hr hj))).mono ?_;rintro x w' ⟨rfl,RR',hQ,hm⟩;exact CPo.of (k:=3) (c2:=⟨.syms n m p s L q i b,R,j⟩) (o:=some .need) (by simp [A7f,starved,hj]) rfl hm (by omega) hz hp0 hQ ⟨rfl,rfl⟩
end
def bU (R:I_) (j:Nat):Int:=if j % 8=0 then 0 else gi R (j / 8) % 2 ^ (8 - j % 8)
def sZ (j:Nat):Int:=if j % 8=0 then 0 else ((8 - j % 8:Nat):Int)
theorem XM (R:I_) (j:Nat):zpad R j=true ↔ bU R j=0:=by
 rw [zpad,bU,l_t];by_cases h:j % 8=0
 ·have:8 * ((j+7) / 8) - j=0:=by omega
  simp [h,this]
 ·rw [if_neg h];have hn:8 * ((j+7) / 8) - j=8 - j % 8:=by omega
  rw [hn]
  have hb:∀ i,i < 8 - j % 8->AP R (j+i)=gi R (j / 8) / 2 ^ (7 - (j % 8+i)) % 2:=by
   intro i hi;have h1:(j+i) / 8=j / 8:=by omega
   have h2:(j+i) % 8=j % 8+i:=by omega
   rw [AP,h1,h2]
  have e:(∀ x ∈ List.range (8 - j % 8),(decide (AP R (j+x)=0))=true) ↔ ∀ i,i < 8 - j % 8->gi R (j / 8) / 2 ^ (7 - (j % 8+i)) % 2=0:=by
   constructor
   ·intro H i hi;rw [<- hb i hi];exact of_decide_eq_true (H i (List.mem_range.2 hi))
   ·intro H i hi;have hi:=List.mem_range.1 hi;rw [hb i hi];exact decide_eq_true (H i hi)
  rw [e];generalize gi R (j / 8)=x;have hc:j % 8=1\/j % 8=2\/j % 8=3\/j % 8=4\/j % 8=5\/j % 8=6\/j % 8=7:=by omega
  rcases hc with hc|hc|hc|hc|hc|hc|hc<;>rw [hc]<;>constructor
  ·intro H;have h0:=H 0 (by decide);have h1:=H 1 (by decide);have h2:=H 2 (by decide);have h3:=H 3 (by decide);have h4:=H 4 (by decide);have h5:=H 5 (by decide);have h6:=H 6 (by decide);exact xby
  ·intro H i hi;have hi2:i=0\/i=1\/i=2\/i=3\/i=4\/i=5\/i=6:=by omega
   rcases hi2 with rfl|rfl|rfl|rfl|rfl|rfl|rfl<;>simp only [Nat.reduceAdd,Nat.reduceSub,Int.reducePow] at *<;>omega
  ·intro H;have h0:=H 0 (by decide);have h1:=H 1 (by decide);have h2:=H 2 (by decide);have h3:=H 3 (by decide);have h4:=H 4 (by decide);have h5:=H 5 (by decide);exact xby
  ·intro H i hi;have hi2:i=0\/i=1\/i=2\/i=3\/i=4\/i=5:=by omega
   rcases hi2 with rfl|rfl|rfl|rfl|rfl|rfl<;>simp only [Nat.reduceAdd,Nat.reduceSub,Int.reducePow] at *<;>omega
  ·intro H;have h0:=H 0 (by decide);have h1:=H 1 (by decide);have h2:=H 2 (by decide);have h3:=H 3 (by decide);have h4:=H 4 (by decide);exact xby
  ·intro H i hi;have hi2:i=0\/i=1\/i=2\/i=3\/i=4:=by omega
   rcases hi2 with rfl|rfl|rfl|rfl|rfl<;>simp only [Nat.reduceAdd,Nat.reduceSub,Int.reducePow] at *<;>omega
  ·intro H;have h0:=H 0 (by decide);have h1:=H 1 (by decide);have h2:=H 2 (by decide);have h3:=H 3 (by decide);exact xby
  ·intro H i hi;have hi2:i=0\/i=1\/i=2\/i=3:=by omega
   rcases hi2 with rfl|rfl|rfl|rfl<;>simp only [Nat.reduceAdd,Nat.reduceSub,Int.reducePow] at *<;>omega
  ·intro H;have h0:=H 0 (by decide);have h1:=H 1 (by decide);have h2:=H 2 (by decide);exact xby
  ·intro H i hi;have hi2:i=0\/i=1\/i=2:=by omega
   rcases hi2 with rfl|rfl|rfl<;>simp only [Nat.reduceAdd,Nat.reduceSub,Int.reducePow] at *<;>omega
  ·intro H;have h0:=H 0 (by decide);have h1:=H 1 (by decide);exact xby
  ·intro H i hi;have hi2:i=0\/i=1:=by omega
   rcases hi2 with rfl|rfl<;>simp only [Nat.reduceAdd,Nat.reduceSub,Int.reducePow] at *<;>omega
  ·intro H;have h0:=H 0 (by decide);exact xby
  ·intro H i hi;have hi2:i=0:=by omega
   subst hi2;exact xby
theorem A20 (R:I_) (j:Nat) (h3:j / 8 < R.length):pk (R.drop (j / 8)) (j % 8) (8 - j % 8)=gi R (j / 8) % 2 ^ (8 - j % 8):=by
 have h1:(j % 8+(8 - j % 8)+7) / 8=1:=by omega
 have h2:1 * 8 - j % 8 - (8 - j % 8)=0:=by omega
 rw [pk,h1,h2]
 exact xc7
section
variable {gp gr F:Nat} {en:Bool} {pt hs ms ts cs ds er:A_} {R:I_} {j:Nat} {rs RR:Rws} {w0 w w':World} {ss:List Sl}
theorem Wi:∀ W g RR,BU gr F en R j rs RR->Own w0 W (g::(gp,PR pt hs ms ts cs ds er)::RR) ss->Calls prog 131 #[.pointer (some ⟨gr,0,none⟩)] W fun x w'=>(x=.returned (.tuple #[.int .u32 (bU R j),.int .i64 (sZ j)]))/\∃ RR',BU gr F en (R.drop ((j+7) / 8)) 0 rs RR'/\Own w0 w' (g::(gp,PR pt hs ms ts cs ds er)::RR') ss:=by
 rintro W g RR ⟨X,E,v,used,rfl,ht,hB,hl,hj,hu0,hu⟩ hm;have hB2:∀ k,Bytes (R.drop k):=fun k x hx=>hB x (List.mem_of_mem_drop hx);by_cases h:j % 8=0
 ·rw [h] at hm;refine (o8 gr X v _ used en w0 W _ ss hm.bM ht (hB2 _) (by simp;omega) hu0 (by omega)).mono ?_;rintro x w' ⟨rfl,hm2⟩;rw [bU,sZ,if_pos h,if_pos h];have e:(j+7) / 8=j / 8:=by omega
  rw [e];exact ⟨rfl,_,⟨X,E,v,used,rfl,ht,hB2 _,by simp;omega,by omega,hu0,by simp;omega⟩,hm2.Nh⟩
 ·refine (o7 gr X v _ (j % 8) used en w0 W _ ss hm.bM ht (hB2 _) (by simp;omega) (by omega) hu0 (by omega) (by omega) (by simp;omega)).mono ?_;rintro x w' ⟨rfl,v2,ht2,hm2⟩;rw [bU,sZ,if_neg h,if_neg h,A20 R j (by omega)];have e:(j+7) / 8=j / 8+1:=by omega
  rw [List.drop_drop] at ht2;rw [e];exact ⟨rfl,_,⟨X,E,v2,used+(8 - j % 8:Nat),rfl,ht2,hB2 _,by simp;omega,by omega,by omega,by simp;omega⟩,hm2.Nh⟩
theorem YT:∀ W g RR,BU gr F en R 0 rs RR->Own w0 W (g::(gp,PR pt hs ms ts cs ds er)::RR) ss->Calls prog 132 #[.pointer (some ⟨gr,0,none⟩)] W fun x w'=>(x=.returned (.int .i64 ((R.length:Int) * 8 - 0)))/\∃ RR',BU gr F en R 0 rs RR'/\Own w0 w' (g::(gp,PR pt hs ms ts cs ds er)::RR') ss:=by
 rintro W g RR ⟨X,E,v,used,rfl,ht,hB,hl,hj,hu0,hu⟩ hm;obtain ⟨ad,c,rfl⟩:=ht.shape;refine (fH gr ad R.length c 0 used en w0 W _ ss hm.bM (by omega) (by omega) (by omega)).mono ?_;exact xec
theorem nO:∀ W g RR,BU gr F en R j rs RR->Own w0 W (g::(gp,PR pt hs ms ts cs ds er)::RR) ss->Calls prog 133 #[.pointer (some ⟨gr,0,none⟩)] W fun x w'=>(x=.returned (.bool en))/\∃ RR',BU gr F en R j rs RR'/\Own w0 w' (g::(gp,PR pt hs ms ts cs ds er)::RR') ss:=by
 rintro W g RR ⟨X,E,v,used,rfl,ht,hB,hl,hj,hu0,hu⟩ hm;refine (jS gr v _ used en w0 W _ ss hm.bM).mono ?_;exact xec
theorem A2x {n m p s:Int} (hm:Own w0 w ((gp,PR (PT 5) hs ms ts cs ds er)::RR) ss) (hz:PRz (PT 5) hs ms ts cs ds er) (hp:V4 ⟨.pad n m p s,R,j⟩ 4 hs ms ts cs ds er) (hr:BU gr F en R j rs RR):Calls prog 86 #[.pointer (some ⟨gp,0,none⟩),.pointer (some ⟨gr,0,none⟩)] w (CPo gp gr F en rs w0 ss ⟨.pad n m p s,R,j⟩):=by
 obtain ⟨_,n1,n2,rfl⟩:=hp;by_cases h:bU R j=0
 ·have hZ:=(XM R j).2 h;have CA:=Wi (F:=F) (en:=en) (R:=R) (j:=j) (rs:=rs) (gr:=gr) (w0:=w0) (ss:=ss) (gp:=gp) (pt:=PT 5) (hs:=HS 4 0 0 n) (ms:=ms) (ts:=ts) (cs:=cs) (ds:=ds) (er:=er);rw [h] at CA;refine (bV gp (sZ j) _ _ _ ms ts cs ds er RR w0 w ss hm (BU gr F en R j rs) (BU gr F en (R.drop ((j+7) / 8)) 0 rs) hr (h_ CA) hz).mono ?_;rintro x w' ⟨rfl,RR',hQ,hm⟩;exact CPo.of (k:=1) (c2:=⟨.mark n .mark,R.drop ((j+7) / 8),0⟩) (o:=some (.U5 m p s)) (by simp [A7f,starved,AB,hZ]) rfl hm (by omega) ⟨rfl,rfl,rfl,hz.ts,hz.cs,hz.ds,hz.er⟩ ⟨rfl,rfl,n1,n2,trivial,rfl,rfl⟩ hQ ⟨rfl,rfl⟩
 ·have hZ:¬ zpad R j=true:=fun e=>h ((XM R j).1 e);refine (Yj gp (sZ j) (bU R j) _ _ _ ms ts cs ds er RR w0 w ss hm (BU gr F en R j rs) (BU gr F en (R.drop ((j+7) / 8)) 0 rs) hr h (h_ Wi) hz).mono ?_;rintro x w' ⟨rfl,RR',hQ,hm⟩;exact CPo.bad (by simp [A7f,starved,AB,hZ]) hm hz.five hQ
theorem nU (hm:Own w0 w ((gp,PR (PT 6) hs ms ts cs ds er)::RR) ss) (hz:PRz (PT 6) hs ms ts cs ds er) (hp:V4 ⟨.behind,R,j⟩ 5 hs ms ts cs ds er) (hr:BU gr F en R j rs RR):Calls prog 88 #[.pointer (some ⟨gp,0,none⟩),.pointer (some ⟨gr,0,none⟩)] w (CPo gp gr F en rs w0 ss ⟨.behind,R,j⟩):=by
 obtain ⟨_,hj⟩:=hp;obtain rfl:j=0:=hj;by_cases h:0 < R.length
 ·refine (bJ gp ((R.length:Int) * 8 - 0) _ _ _ ms ts cs ds er RR w0 w ss hm (BU gr F en R 0 rs) (BU gr F en R 0 rs) hr (by omega) (h_ YT) hz).mono ?_;rintro x w' ⟨rfl,RR',hQ,hm⟩;exact CPo.bad (by simp only [A7f,AB,if_pos h,starved,List.isEmpty_eq_false_iff.2 (List.ne_nil_of_length_pos h)];simp) hm hz.five hQ
 ·cases en with
 |true =>
   refine (lJ gp ((R.length:Int) * 8 - 0) _ _ _ ms ts cs ds er RR w0 w ss hm (BU gr F true R 0 rs) (BU gr F true R 0 rs) hr (by omega) (h_ YT) (h_ nO) hz).mono ?_;rintro x w' ⟨rfl,RR',hQ,hm⟩;exact CPo.of (k:=6) (c2:=⟨.over,R,0⟩) (o:=some .fin) (by simp only [A7f,AB,if_neg h];rfl) rfl hm (by omega) ⟨rfl,hz.hs,hz.ms,hz.ts,hz.cs,hz.ds,hz.er⟩ rfl hQ ⟨rfl,rfl⟩
 |false =>
   have hR:R=[]:=List.length_eq_zero_iff.1 (by omega);refine (A58 gp ((R.length:Int) * 8 - 0) _ _ _ ms ts cs ds er RR w0 w ss hm (BU gr F false R 0 rs) (BU gr F false R 0 rs) hr (by omega) (h_ YT) (h_ nO) hz).mono ?_;rintro x w' ⟨rfl,RR',hQ,hm⟩;exact CPo.of (k:=5) (c2:=⟨.behind,R,0⟩) (o:=some .need) (by rw [hR];rfl) rfl hm (by omega) hz ⟨rfl,rfl⟩ hQ ⟨rfl,rfl⟩
theorem A0D (hm:Own w0 w ((gp,PR (PT 7) hs ms ts cs ds er)::RR) ss) (hz:PRz (PT 7) hs ms ts cs ds er) (hr:BU gr F en R j rs RR):Calls prog 90 #[.pointer (some ⟨gp,0,none⟩),.pointer (some ⟨gr,0,none⟩)] w (CPo gp gr F en rs w0 ss ⟨.over,R,j⟩):=by
 refine (wL gp _ _ hs ms ts cs ds er RR w0 w ss hm).mono ?_;rintro x w' ⟨rfl,hm⟩;exact CPo.of (k:=6) (c2:=⟨.over,R,j⟩) (o:=some .fin) (by simp [A7f,starved,AB]) rfl hm (by omega) hz rfl hr ⟨rfl,rfl⟩
theorem A2y {e:Int} (hm:Own w0 w ((gp,PR (PT 8) hs ms ts cs ds er)::RR) ss) (hz:PRz (PT 8) hs ms ts cs ds er) (hp:V4 ⟨.bad e,R,j⟩ 7 hs ms ts cs ds er) (hr:BU gr F en R j rs RR):Calls prog 92 #[.pointer (some ⟨gp,0,none⟩),.pointer (some ⟨gr,0,none⟩)] w (CPo gp gr F en rs w0 ss ⟨.bad e,R,j⟩):=by
 obtain ⟨_,rfl,h0⟩:=hp;refine (nI gp e _ _ hs ms ts cs ds RR w0 w ss hm hz).mono ?_;rintro x w' ⟨rfl,hm⟩;exact CPo.bad (by simp [A7f,starved,AB]) hm hz.five hr h0
theorem A2z {c:Cf} {k:Nat} (hk:k < 8) (hm:Own w0 w ((gp,PR (PT ((k:Nat)+1)) hs ms ts cs ds er)::RR) ss) (hz:PRz (PT ((k:Nat)+1)) hs ms ts cs ds er) (hp:V4 c k hs ms ts cs ds er) (hr:BU gr F en c.R c.j rs RR):Calls prog (78+2 * k) #[.pointer (some ⟨gp,0,none⟩),.pointer (some ⟨gr,0,none⟩)] w (CPo gp gr F en rs w0 ss c):=by
 obtain ⟨s,R,j⟩:=c;cases s with
|head t=>obtain rfl:k=0:=hp.1;exact A0F hm hz hp hr
|mark n t=>obtain rfl:k=1:=hp.1;exact A0E hm hz hp hr
|table n m p s t=>obtain rfl:k=2:=hp.1;exact xq hm hz hp hr
|syms n m p s L q i b=>obtain rfl:k=3:=hp.1;exact A0C hm hz hp hr
|pad n m p s=>obtain rfl:k=4:=hp.1;exact A2x hm hz hp hr
|behind=>obtain rfl:k=5:=hp.1;exact nU hm hz hp hr
|over=>obtain rfl:k=6:=hp;exact A0D hm hz hr
|bad e=>obtain rfl:k=7:=hp.1;exact A2y hm hz hp hr
end
theorem PR_k {a b:Int} {hs ms ts cs ds er hs' ms' ts' cs' ds' er':A_} (h:PR (PT a) hs ms ts cs ds er=PR (PT b) hs' ms' ts' cs' ds' er'):a=b:=by
 have h2:(PR (PT a) hs ms ts cs ds er)[0]?=(PR (PT b) hs' ms' ts' cs' ds' er')[0]?:=by rw [h]
 simpa [PR,PT] using h2
section
variable {gp gr F:Nat} {en:Bool} {rs:Rws} {w0 w w':World} {ss:List Sl}
theorem BU.addf {R:I_} {j:Nat} {f p:Nat × A_} {RR:Rws} (hr:BU gr F en R j rs RR) (hm:Own w0 w (f::p::RR) ss):∃ RR2,BU gr F en R j (f::rs) RR2/\Own w0 w (p::RR2) ss:=by
 obtain ⟨X,E,v,used,rfl,h⟩:=hr;rw [<- l_a] at hm;have hm:=hm.jA;rw [l_a] at hm;exact ⟨_,⟨X,E,v,used,rfl,h⟩,hm⟩
theorem Rel.outx {c:Cf} {f:Nat × A_} {X R:Rws} (hr:Rel gp gr F en (f::rs) c R) (hm:Own w0 w (X++R) ss):∃ R2,Rel gp gr F en rs c R2/\Own w0 w (f::(X++R2)) ss:=by
 obtain ⟨k,hs,ms,ts,cs,ds,er,RR,rfl,hk,hz,hp,Y,E,v,used,rfl,h⟩:=hr;refine ⟨_,⟨k,hs,ms,ts,cs,ds,er,_,rfl,hk,hz,hp,Y,E,v,used,rfl,h⟩,hm.perm ?_⟩;have e:∀ (A B:Rws) (g:Nat × A_),(A++(g::B)).Perm (g::(A++B)):=fun A B g=>List.perm_middle;have:=e (X++((gp,PR (PT (k+1)) hs ms ts cs ds er)::(gr,RD v ((c.j % 8:Nat):Int) used en)::(Y++E))) rs f;simpa using this.symm
theorem zH {c:Cf} {R:Rws} (hR:Rel gp gr F en rs c R) (hm:Own w0 w R ss):Calls prog 38 #[.pointer (some ⟨gp,0,none⟩),.pointer (some ⟨gr,0,none⟩)] w fun x w'=>∃ kd n m p s v e ev c2 X R',x=.returned (.agg (EVT kd n m p s v e))/\v.oneCell'=true/\NxE en c ev c2/\yR X ev kd n m p s v e/\Rel gp gr F en rs c2 R'/\Own w0 w' (X++R') ss:=by
 have hR0:=hR;obtain ⟨k,hs,ms,ts,cs,ds,er,RR,rfl,hk,hz,hp,hr⟩:=hR;refine (zG gp gr _ hs ms ts cs ds er RR w0 w ss hm (fun n R=>∃ c',(∀ ev c2,NxE en c' ev c2->NxE en c ev c2)/\n=c'.mu/\Rel gp gr F en rs c' R) c.mu ⟨c,fun _ _ h=>h,rfl,hR0⟩ ?_ (fun kd n m p s v e R'=>∃ ev c2 X R2,R'=X++R2/\v.oneCell'=true/\NxE en c ev c2/\yR X ev kd n m p s v e/\Rel gp gr F en rs c2 R2) (h_ ?_)).mono ?_
 ·rintro n R ⟨c',_,_,k,hs,ms,ts,cs,ds,er,RR,rfl,hk,hz,_⟩;exact ⟨k,hs,ms,ts,cs,ds,er,RR,rfl,hk,hz⟩
 ·rintro n k hs ms ts cs ds er RR2 W f ss' hk ⟨c',hN,rfl,k',hs',ms',ts',cs',ds',er',RR',hR,hk',hz',hp',hr'⟩ hm;rw [hR] at hm;injection hR with h1 h2;injection h1 with _ h1;have hkk:=PR_k h1;obtain rfl:k=k':=by omega
  clear h1 h2 hkk;obtain ⟨RR3,hr3,hm3⟩:=hr'.addf hm;refine (A2z hk hm3 hz' hp' hr3).mono ?_;rintro x w' ⟨kd,n,m,p,s,v,e,X,R,rfl,hv,hm4,hR4,hE⟩;obtain ⟨R2,hR5,hm5⟩:=hR4.outx hm4;refine ⟨kd,n,m,p,s,v,e,_,X++R2,rfl,hv,hm5,?_,?_⟩
  ·intro ht;obtain ⟨ev,he⟩:=Option.isSome_iff_exists.1 ht;rw [he] at hE;exact ⟨ev,(A7f en c').2,X,R2,rfl,hv,hN _ _ (NxE.now (by rw [<- he])),hE,hR5⟩
  ·intro ht;have he:(A7f en c').1=none:=by simpa using ht
   rw [he] at hE;obtain rfl:X=[]:=hE;exact ⟨_,A3I c' (by rw [he];rfl),(A7f en c').2,fun ev c2 h=>hN _ _ (NxE.later he h),rfl,hR5⟩
 ·rintro x w' ⟨kd,n,m,p,s,v,e,R',rfl,⟨ev,c2,X,R2,rfl,h0,h1,h2,h3⟩,hm⟩;exact ⟨kd,n,m,p,s,v,e,ev,c2,X,R2,rfl,h0,h1,h2,h3,hm⟩
theorem Rel.split {c:Cf} {R:Rws} (hr:Rel gp gr F en rs c R):∃ P,R=P++rs/\∀ rs',Rel gp gr F en rs' c (P++rs'):=by
 obtain ⟨k,hs,ms,ts,cs,ds,er,RR,rfl,hk,hz,hp,X,E,v,used,rfl,h⟩:=hr;refine ⟨(gp,PR (PT (k+1)) hs ms ts cs ds er)::(gr,RD v ((c.j % 8:Nat):Int) used en)::(X++E),by simp,fun rs'=>⟨k,hs,ms,ts,cs,ds,er,_,rfl,hk,hz,hp,X,E,v,used,by simp,h⟩⟩
theorem Rel.start {v:Value}:Rel gp gr 0 false rs ⟨.head ⟨0,0,0⟩,[],0⟩ ((gp,PR0)::(gr,RD (.slice none 0 0) 0 0 false)::rs) :=
 ⟨0,_,_,_,_,_,_,_,rfl,by omega,PR0_z,⟨rfl,rfl,.inl ⟨by decide,by decide,rfl,rfl⟩,rfl,rfl⟩,[],[],_,0,rfl,.inl ⟨rfl,rfl,rfl⟩,(fun x h=>(by cases h)),by simp,Nat.zero_le _,by omega,by simp⟩
end
end Go.Proofs.YtkpbhdhkdonghaaGreat

set_option linter.all false
namespace Go.Proofs.YtkpbhdhkdonghaaGreat
open Go Go.RowKit
def chk (out:I_) (p s:Int):Except Int I_:=match bwk out p.toNat out.length 0 [] with
|none=>.error 170
|some t=>if crc 0 [t.reverse]=s then .ok t.reverse else .error 250
def G (c:Cf) (out x:I_) (b:Nat):I_ × Nat × Int :=
 if h:H6 (AB c).1=true then (x,b,match (AB c).1 with|some (.bad e)=>e|_=>0)
 else match (AB c).1 with
 |some (.block _ _ _)=>G (AB c).2 [] x b
 |some (.bytes t)=>G (AB c).2 (out++t) x b
 |some (.U5 _ p s)=>match chk out p s with
  |.error e=>(x,b,e)
  |.ok t=>G (AB c).2 [] (x++t) (b+1)
 |some (.tail s)=>if s=crc 0 [x] then G (AB c).2 out x b else (x,b,260)
 |_=>G (AB c).2 out x b
termination_by c.mu
decreasing_by all_goals exact Ol c (by simpa using h)
def A7e:HT->I_->Except Int (Int × I_)
|_,[]=>.error 50
|t,x::R=>match t.step x with
 |.go t2=>A7e t2 R
 |.done n=>.ok (n,R)
 |.bad e=>.error e
def BO (n:Int):MT->I_->Except Int (MR × I_)
|_,[]=>.error 50
|t,x::R=>match t.step n x with
 |.go t2=>BO n t2 R
 |.bad=>.error 242
 |r=>.ok (r,R)
def Dt (L:I_):Int->Nat->DS->I_->I_->Nat->Except Int (I_ × Nat)
|_,_,_,[],_,_=>.error 50
|q,k,b,x::r,out,a =>
  if (pfs L q k x).2.2.2=true then
   (if (FY b (pfs L q k x).2.2.1).2.2.2=0 then
    (if (FY b (pfs L q k x).2.2.1).2.2.1=true then .ok (out++(FY b (pfs L q k x).2.2.1).2.1,a+1)
    else Dt L (pfs L q k x).1 (pfs L q k x).2.1 (FY b (pfs L q k x).2.2.1).1 r (out++(FY b (pfs L q k x).2.2.1).2.1) (a+1))
   else .error (FY b (pfs L q k x).2.2.1).2.2.2)
  else Dt L (pfs L q k x).1 (pfs L q k x).2.1 b r out (a+1)
def Ik (m p s:Int) (rest:I_):Except Int (I_ × I_) :=
 if (Bv TT0 (bitsOf rest (8 * rest.length)) 0).2.2=0 then
  match Dt (Bv TT0 (bitsOf rest (8 * rest.length)) 0).1 0 0 (dNew m) ((bitsOf rest (8 * rest.length)).drop (Bv TT0 (bitsOf rest (8 * rest.length)) 0).2.1.toNat) [] 0 with
 |.error e=>.error e
 |.ok (last,many)=>if zpad rest ((Bv TT0 (bitsOf rest (8 * rest.length)) 0).2.1.toNat+many) then
    (match chk last p s with
   |.error e=>.error e
   |.ok t=>.ok (t,rest.drop (((Bv TT0 (bitsOf rest (8 * rest.length)) 0).2.1.toNat+many+7) / 8)))
   else .error 160
 else .error (Bv TT0 (bitsOf rest (8 * rest.length)) 0).2.2
def IW (n:Int):Nat->I_->I_->Nat->I_ × Nat × Int
|0,_,x,b=>(x,b,1)
|f+1,left,x,b=>match BO n .mark left with
 |.ok (.block m p s,rest)=>(match Ik m p s rest with
  |.error e=>(x,b,e)
  |.ok (t,r2)=>IW n f r2 (x++t) (b+1))
 |.ok (.tail s,rest)=>if s=crc 0 [x] then (if 0 < rest.length then (x,b,261) else (x,b,0)) else (x,b,260)
 |.ok _=>(x,b,1)
 |.error e=>(x,b,e)
section
variable {n m p s:Int} {R out x:I_} {b j:Nat}
theorem NJ {c:Cf} (h:(AB c).1=none):G c out x b=G (AB c).2 out x b:=by
 rw [G,h];rfl
theorem OU {c:Cf} {e:Int} (h:(AB c).1=some (.bad e)):G c out x b=(x,b,e):=by
 rw [G,h];rfl
theorem yP:∀ (R:I_) (t:MT) (j:Nat),G ⟨.mark n t,R,j⟩ out x b=match BO n t R with
 |.ok (.block m p s,rest)=>G ⟨.table n m p s TT0,rest,0⟩ [] x b
 |.ok (.tail s,rest)=>if s=crc 0 [x] then G ⟨.behind,rest,0⟩ out x b else (x,b,260)
 |.ok _=>(x,b,1)
 |.error e=>(x,b,e)
|[],t,j=>by rw [OU (e:=50) rfl];rfl
|y::R,t,j=>by
  have ih:=yP R;cases hr:t.step n y with
 |go t2 =>
   have hc:AB ⟨.mark n t,y::R,j⟩=(none,⟨.mark n t2,R,0⟩):=by simp [AB,hr,MX]
   rw [NJ (by rw [hc]),hc,ih t2 0,BO,hr]
 |block m p s =>
   have hc:AB ⟨.mark n t,y::R,j⟩=(some (.block m p s),⟨.table n m p s TT0,R,0⟩):=by simp [AB,hr,MX]
   rw [G,hc,BO,hr];rfl
 |tail s =>
   have hc:AB ⟨.mark n t,y::R,j⟩=(some (.tail s),⟨.behind,R,0⟩):=by simp [AB,hr,MX]
   rw [G,hc,BO,hr];rfl
 |bad =>
   have hc:AB ⟨.mark n t,y::R,j⟩=(some (.bad 242),⟨.bad 242,R,0⟩):=by simp [AB,hr,MX]
   rw [OU (e:=242) (by rw [hc]),BO,hr]
theorem RF:∀ (R:I_) (t:MT) (r:MR) (rest:I_),BO n t R=.ok (r,rest)->rest.length < R.length
|[],t,r,rest,h=>by cases h
|y::R,t,r,rest,h=>by
  rw [BO] at h;cases hr:t.step n y with
 |go t2=>rw [hr] at h;have:=RF R t2 r rest h;simp;omega
 |block m p s=>rw [hr] at h;cases h;simp
 |tail s=>rw [hr] at h;cases h;simp
 |bad=>rw [hr] at h;cases h
theorem VW (R:I_) (j:Nat) (h:j < 8 * R.length):(bitsOf R (8 * R.length)).drop j=AP R j::(bitsOf R (8 * R.length)).drop (j+1):=by
 have hl:j < (bitsOf R (8 * R.length)).length:=by simp [bitsOf];exact h
 rw [List.drop_eq_getElem_cons hl]
 congr 1
 simp [bitsOf]
theorem ZK (R:I_) (j:Nat) (h:¬ j < 8 * R.length):(bitsOf R (8 * R.length)).drop j=[]:=List.drop_eq_nil_of_le (by simp [bitsOf];omega)
theorem kK:∀ (d:Nat) (t:TT) (j:Nat),j+d=8 * R.length->G ⟨.table n m p s t,R,j⟩ out x b =
  if (Bv t ((bitsOf R (8 * R.length)).drop j) j).2.2=0 then G ⟨.syms n m p s (Bv t ((bitsOf R (8 * R.length)).drop j) j).1 0 0 (dNew m),R,(Bv t ((bitsOf R (8 * R.length)).drop j) j).2.1.toNat⟩ out x b else (x,b,(Bv t ((bitsOf R (8 * R.length)).drop j) j).2.2)
|0,t,j,h=>by
  have hj:¬ j < 8 * R.length:=by omega
  rw [OU (e:=50) (by simp [AB,hj]),ZK R j hj,Bv,if_neg (by decide)]
|d+1,t,j,h=>by
  have hj:j < 8 * R.length:=by omega
  have ih:=kK d;rw [VW R j hj,Bv];by_cases h1:(t.next (AP R j)).2=true
  ·rw [if_pos h1];by_cases h2:(t.next (AP R j)).1.s=258
   ·rw [if_pos h2,if_pos rfl];have hc:AB ⟨.table n m p s t,R,j⟩=(none,⟨.syms n m p s (t.next (AP R j)).1.l 0 0 (dNew m),R,j+1⟩):=by simp [AB,hj,Oj,h1,h2]
    rw [NJ (by rw [hc]),hc]
    congr 2
   ·rw [if_neg h2];have hc:AB ⟨.table n m p s t,R,j⟩=(none,⟨.table n m p s (t.next (AP R j)).1,R,j+1⟩):=by simp [AB,hj,Oj,h1,h2]
    rw [NJ (by rw [hc]),hc,ih _ (j+1) (by omega)];rfl
  ·rw [if_neg h1,if_neg (by decide)];rw [OU (e:=100) (by simp [AB,hj,Oj,h1])]
theorem Nw:∀ (l:I_) (t:TT) (i:Int),(Bv t l i).2.2=0->i < (Bv t l i).2.1/\(Bv t l i).2.1<=i+l.length
|[],t,i,h=>by simp [Bv] at h
|y::l,t,i,h=>by
  rw [Bv] at h ⊢;split at h
  ·rename_i h1;rw [if_pos h1];split at h
   ·rename_i h2;rw [if_pos h2];simp only [List.length_cons];omega
   ·rename_i h2;rw [if_neg h2];have:=Nw l _ _ h;simp only [List.length_cons];omega
  ·simp at h
theorem Om (L:I_):∀ (q:Int) (k:Nat) (b:DS) (l out:I_) (a:Nat) (last:I_) (many:Nat),Dt L q k b l out a=.ok (last,many)->a < many
|q,k,b,[],out,a,last,many,h=>by cases h
|q,k,b,x::r,out,a,last,many,h=>by
  rw [Dt] at h;split at h
  ·split at h
   ·split at h
    ·cases h;omega
    ·have:=Om L _ _ _ r _ _ last many h;omega
   ·cases h
  ·have:=Om L _ _ _ r _ _ last many h;omega
theorem yO (L:I_):∀ (d:Nat) (q:Int) (k:Nat) (bs:DS) (j a:Nat) (out:I_),j+d=8 * R.length->G ⟨.syms n m p s L q k bs,R,j⟩ out x b =
  match Dt L q k bs ((bitsOf R (8 * R.length)).drop j) out a with
 |.error e=>(x,b,e)
 |.ok (last,many)=>G ⟨.pad n m p s,R,j+(many - a)⟩ last x b
|0,q,k,bs,j,a,out,h=>by
  have hj:¬ j < 8 * R.length:=by omega
  rw [OU (e:=50) (by simp [AB,hj]),ZK R j hj,Dt]
|d+1,q,k,bs,j,a,out,h=>by
  have hj:j < 8 * R.length:=by omega
  have ih:=yO L d;rw [VW R j hj,Dt];by_cases h1:(pfs L q k (AP R j)).2.2.2=true
  ·rw [if_pos h1]
   have hs:AB ⟨.syms n m p s L q k bs,R,j⟩=MQ n m p s L (pfs L q k (AP R j)).1 (pfs L q k (AP R j)).2.1 (FY bs (pfs L q k (AP R j)).2.2.1) R (j+1):=by
    simp only [AB,if_pos hj,eY,if_pos h1]
   generalize (pfs L q k (AP R j)).1=q2 at *;generalize (pfs L q k (AP R j)).2.1=k2 at *;generalize FY bs (pfs L q k (AP R j)).2.2.1=o at *;by_cases h2:o.2.2.2=0
   ·rw [if_pos h2]
    have hG:G ⟨.syms n m p s L q k bs,R,j⟩ out x b=G ⟨if o.2.2.1 then .pad n m p s else .syms n m p s L q2 k2 o.1,R,j+1⟩ (out++o.2.1) x b:=by
     rw [MQ,if_pos h2] at hs;by_cases h3:0 < o.2.1.length
     ·rw [if_pos h3] at hs;rw [G,hs];rfl
     ·rw [if_neg h3] at hs;have:o.2.1=[]:=List.length_eq_zero_iff.1 (by omega);rw [NJ (by rw [hs]),hs,this,List.append_nil]
    rw [hG];by_cases h3:o.2.2.1=true
    ·rw [if_pos h3,if_pos h3]
     congr 2
     omega
    ·rw [if_neg h3,if_neg h3,ih q2 k2 o.1 (j+1) (a+1) (out++o.2.1) (by omega)];cases hc:Dt L q2 k2 o.1 ((bitsOf R (8 * R.length)).drop (j+1)) (out++o.2.1) (a+1) with
    |error e=>rfl
    |ok r =>
      exact xe8
   ·rw [if_neg h2];rw [MQ,if_neg h2] at hs;rw [OU (by rw [hs])]
  ·rw [if_neg h1]
   have hs:AB ⟨.syms n m p s L q k bs,R,j⟩=(none,⟨.syms n m p s L (pfs L q k (AP R j)).1 (pfs L q k (AP R j)).2.1 bs,R,j+1⟩):=by
    simp only [AB,if_pos hj,eY,if_neg h1]
   rw [NJ (by rw [hs]),hs,ih _ _ bs (j+1) (a+1) out (by omega)];cases hc:Dt L (pfs L q k (AP R j)).1 (pfs L q k (AP R j)).2.1 bs ((bitsOf R (8 * R.length)).drop (j+1)) out (a+1) with
  |error e=>rfl
  |ok r =>
    exact xe8
theorem G_pad:G ⟨.pad n m p s,R,j⟩ out x b=if zpad R j=true then (match chk out p s with
 |.error e=>(x,b,e)
 |.ok t=>G ⟨.mark n .mark,R.drop ((j+7) / 8),0⟩ [] (x++t) (b+1)) else (x,b,160):=by
 by_cases h:zpad R j=true
 ·rw [if_pos h];have hc:AB ⟨.pad n m p s,R,j⟩=(some (.U5 m p s),⟨.mark n .mark,R.drop ((j+7) / 8),0⟩):=by simp [AB,h]
  rw [G,hc];rfl
 ·rw [if_neg h];have hc:AB ⟨.pad n m p s,R,j⟩=(some (.bad 160),⟨.bad 160,R.drop ((j+7) / 8),0⟩):=by simp [AB,h]
  rw [OU (e:=160) (by rw [hc])]
theorem G_blk:G ⟨.table n m p s TT0,R,0⟩ [] x b=match Ik m p s R with
 |.error e=>(x,b,e)
 |.ok (t,r2)=>G ⟨.mark n .mark,r2,0⟩ [] (x++t) (b+1):=by
 rw [kK (8 * R.length) TT0 0 (by omega),Ik,List.drop_zero];have e0:((0:Nat):Int)=0:=rfl;rw [e0];by_cases h:(Bv TT0 (bitsOf R (8 * R.length)) 0).2.2=0
 ·rw [if_pos h,if_pos h];have hl:=Nw _ _ _ h;have hb:(bitsOf R (8 * R.length)).length=8 * R.length:=by simp [bitsOf]
  rw [hb] at hl;generalize Bv TT0 (bitsOf R (8 * R.length)) 0=o at *;rw [yO o.1 (8 * R.length - o.2.1.toNat) 0 0 (dNew m) o.2.1.toNat 0 [] (by omega)];cases Dt o.1 0 0 (dNew m) ((bitsOf R (8 * R.length)).drop o.2.1.toNat) [] 0 with
 |error e=>rfl
 |ok r =>
   show G _ _ _ _=_;rw [G_pad,Nat.sub_zero];by_cases hz:zpad R (o.2.1.toNat+r.2)=true
   ·rw [if_pos hz];simp only [hz,if_true];cases chk r.1 p s<;>rfl
   ·rw [if_neg hz];simp only [hz];rfl
 ·rw [if_neg h,if_neg h]
theorem lK {t r2:I_} (h:Ik m p s R=.ok (t,r2)):r2.length<=R.length:=by
 unfold Ik at h
 repeat' split at h
 all_goals first|(cases h;done)|(cases h;simp)
theorem A1C:∀ (f:Nat) (left x:I_) (b:Nat) (out:I_),left.length < f->G ⟨.mark n .mark,left,0⟩ out x b=IW n f left x b
|0,left,x,b,out,h=>by omega
|f+1,left,x,b,out,h=>by
  rw [yP,IW];cases hr:BO n .mark left with
 |error e=>rfl
 |ok q =>
   obtain ⟨r,rest⟩:=q;have hl:=RF left _ _ _ hr;cases r with
  |go t=>rfl
  |bad=>rfl
  |block m p s =>
    show G _ _ _ _=_;rw [G_blk];cases hb:Ik m p s rest with
   |error e=>simp only [hb]
   |ok q =>
     obtain ⟨t,r2⟩:=q;have:=lK hb;simp only [hb];exact A1C f r2 (x++t) (b+1) [] (by omega)
  |tail s =>
    show (if _ then _ else _)=(if _ then _ else _);by_cases hs:s=crc 0 [x]
    ·rw [if_pos hs,if_pos hs,G];by_cases h0:0 < rest.length
     ·simp [AB,h0,H6,Evt.last]
     ·simp [AB,h0,H6,Evt.last]
    ·rw [if_neg hs,if_neg hs]
theorem yQ:∀ (R:I_) (t:HT) (j:Nat),G ⟨.head t,R,j⟩ out x b=match A7e t R with
 |.error e=>(x,b,e)
 |.ok (n,left)=>G ⟨.mark n .mark,left,0⟩ out x b
|[],t,j=>by rw [OU (e:=50) rfl];rfl
|y::R,t,j=>by
  have ih:=yQ R;cases hr:t.step y with
 |go t2 =>
   have hc:AB ⟨.head t,y::R,j⟩=(none,⟨.head t2,R,0⟩):=by simp [AB,hr,Qs]
   rw [NJ (by rw [hc]),hc,ih t2 0,A7e,hr]
 |done n =>
   have hc:AB ⟨.head t,y::R,j⟩=(some (.head n),⟨.mark n .mark,R,0⟩):=by simp [AB,hr,Qs]
   rw [G,hc,A7e,hr];rfl
 |bad e =>
   have hc:AB ⟨.head t,y::R,j⟩=(some (.bad e),⟨.bad e,R,0⟩):=by simp [AB,hr,Qs]
   rw [OU (e:=e) (by rw [hc]),A7e,hr]
end
open Go Tryz Go.RowKit
variable {A:Addr} {n:Int} {l:I_} {ss:List Sl} {k:Nat} {a b c:Nat × A_} {o:Oper} {x:Operand} {rs:Rws} {w w0:World}
theorem qg (w:World):(zeroValue 80).run prog w=.ok (.agg #[.int .i64 0]) w:=by kernel_rfl
theorem A0S (n:Int):Aq prog 80 (#[.int .i64 n]:A_).size:=ag rfl
theorem A8c (n:Int):∀ v ∈ (#[.int .i64 n]:A_),v.oneCell'=true:=Dp (cs:=[.int .i64 n]) rfl
theorem Xn {a:Act} (ho:o.op=.build 80 #[(0,x)]) (hx:a.eval x=.int .i64 n):(execOp a.eval o).run prog w=.ok (.value (.agg #[.int .i64 n])) w :=
 Dq ho (by simp only [l_y,List.map_cons,List.map_nil,hx];kernel_rfl)
theorem In.from {W:World} {c:Nat} (h:In .u8 W (.slice (some A) l.length c) l) (hk:k<=l.length) (hc:l.length<=c):Src W (.slice (D8 (some A) c k) (l.length - k) (c - k)) (vs .u8 (l.drop k)):=by
 obtain ⟨ad2,c2,he,hl⟩:=h;cases he;by_cases e:c=k
 ·subst e;have:l.drop c=[]:=List.drop_eq_nil_of_le hc;rw [this,D8,if_pos rfl];refine .inr ⟨A,c - c,?_,fun j u hj=>by cases hj⟩;rw [show l.length - c=0 by omega];rfl
 ·rw [D8,if_neg e];refine .inr ⟨A.add k,c - k,by simp [Ai],fun j u hj=>?_⟩;have hlt:=(List.getElem?_eq_some_iff.1 hj).1;rw [Ai,List.length_drop] at hlt;obtain ⟨A2,h2,h3⟩:=hl (k+j) (by omega);cases h2;rw [Fg _ _ j (by simpa using hlt)] at hj;cases hj
  have e2:(A.add k).add j=A.add (k+j):=by
   by_cases h1:k=0<;>by_cases h2:j=0<;>simp [Addr.add,h1,h2,Nat.add_assoc]
  rw [e2,h3];simp [gi]
theorem Own.unX3 {X:Rws} (h:Own w0 w (X++(a::b::c::rs)) ss):Own w0 w (a::b::c::(X++rs)) ss:=h.perm (by
 have e:(X++([a,b,c]++rs)).Perm ([a,b,c]++(X++rs)):=by
  exact xcq
 exact e.symm)
theorem Own.delX3 {X:Rws} (h:Own w0 w (a::b::c::(X++rs)) ss):Own w0 w (a::b::c::rs) ss:=h.sub (List.Sublist.cons_cons _ (List.Sublist.cons_cons _ (List.Sublist.cons_cons _ (List.sublist_append_right X rs)))) (List.Sublist.refl _)
def yM (w0:World) (o:Except Int (Int × I_)) (rs:Rws) (ss:List Sl) (x:Ending) (w':World):Prop:=match o with
|.error e=>e ≠ 0/\x=.returned (.tuple #[.agg #[.int .i64 0],.slice none 0 0,.int .i64 e])/\Own w0 w' rs ss
|.ok (n,R)=>∃ X v,x=.returned (.tuple #[.agg #[.int .i64 n],v,.int .i64 0])/\Lies 1 X v R.length (vs .u8 R)/\Own w0 w' (X++rs) ss
theorem nC (v:Value) (l:I_) (w0 w:World) (rs:Rws) (ss:List Sl) (hm:Own w0 w rs ss) (hv:∀ W,Own w0 W rs ss->InC .u8 W v l) (hb:Bytes l) (hn:l.length<=1000):Calls prog 45 #[v] w (yM w0 (A7e ⟨0,0,0⟩ l) rs ss):=by
 obtain ⟨ad,cp,rfl,hlc,_⟩:=hv w hm;have HI:Hid (∀ W,Own w0 W rs ss->In .u8 W (.slice ad l.length cp) l):=h_ fun W h=>(hv W h).zu
 have HC:Hid (∀ W,Own w0 W rs ss->∀ k,k < l.length->∃ A,ad=some A/\W.cell? (A.add k)=some (.int .u8 (gi l k))):=h_ fun W h k hk=>by
  exact xdr
 obtain ⟨i3,hE⟩:=Md;have HE:=h_ hE;have HB:=h_ hb;clear hE hb hv;go_enter func45,ntmps45
 go_wp2_with (first
 |(with_reducible first|(refine wa 80 hm qg ?_;clear hm;intro w g2 hm)|(refine wa 137 hm Nc ?_;clear hm;intro w g5 hm)))
 go_loopw [13] (fun u wr=>∃ (k:Nat) (t:HT),k<=l.length/\u=.int .i64 k/\t.ok/\A7e ⟨0,0,0⟩ l=A7e t (l.drop k)/\Own w0 wr ((g5,t.v)::(g2,#[.int .i64 0])::rs) ss) (fun u _=>l.length - (intOf u).toNat)
 case atStart=>exact ⟨0,⟨0,0,0⟩,by omega,rfl,.inl ⟨by decide,by decide,rfl,rfl⟩,rfl,hm⟩
 case round =>
  clear hm;obtain ⟨k,t,hk,rfl,ht,hR,hm⟩:=hrel;by_cases hlt:k < l.length
  ·obtain ⟨A,rfl,hA0⟩:=HC.out _ hm.dropRow.dropRow k hlt
   have HA:Hid (∀ W (a b:Nat × A_),Own w0 W (a::b::rs) ss->W.cell? (A.add k)=some (.int .u8 (gi l k))):=h_ fun W a b h=>by
    obtain ⟨A2,he,h2⟩:=HC.out _ h.dropRow.dropRow k hlt;cases he;exact h2
   have CC:Hid (∀ W (a b c:Nat × A_),Own w0 W (a::b::c::rs) ss->Calls prog 99 #[.slice (D8 (some A) cp (k+1)) (l.length - (k+1)) (cp - (k+1))] W fun x w'=>∃ X v,x=.returned v/\Lies 1 X v (l.drop (k+1)).length (vs .u8 (l.drop (k+1)))/\Own w0 w' (a::b::c::(X++rs)) ss):=h_ fun W a b c h=>by
    refine (clone_any _ (l.drop (k+1)) W (In.from (HI.out _ h.dropRow.dropRow.dropRow) (by omega) hlc) (by simp;omega)).mono fun x w' hx=>?_;obtain ⟨X,v,rfl,hX,hm⟩:=h.ofB hx;exact ⟨X,v,rfl,hX,hm.unX3⟩
   have hs:=HB.out (gi l k) (by rw [BZ l k hlt];exact List.getElem_mem _);have hk1:k+1<=l.length:=hlt;rw [List.drop_eq_getElem_cons hlt,<- BZ l k hlt,A7e] at hR;have CN:=h_ (fun w=>VA t ht (gi l k) hs.1 (by omega) w);have hok:=HT.step_ok ht hs.1 (show gi l k<=255 by omega);have HR:=h_ hR;clear hA0 hR hs;generalize gi l k=x at *;generalize t.step x=r at *;obtain ⟨a,V,M⟩:=t;simp only [HT.v] at hm;cases r with
  |go t2 =>
    have hR:=HR.out;clear HR CC;obtain ⟨a2,V2,M2⟩:=t2;have HN:Hid (A7e ⟨0,0,0⟩ l=A7e ⟨a2,V2,M2⟩ (l.drop (k+1))/\HT.ok ⟨a2,V2,M2⟩):=h_ ⟨hR,hok⟩;clear hR hok ht;simp only [HR.val,HT.v] at CN
    go_wp2_with (first
     |(with_reducible refine wa 137 hm Nc ?_;clear hm;intro w g8 hm)
     |(go_at_call 98;refine cB (CN.out _) hm ?_;clear hm;intro w1 hm)
     |(with_reducible refine gIa (t:=22) ?_;(refine A8 rfl (Am rfl HE.out rfl rfl rfl hlt) ?_))
     |(with_reducible refine gLd (t:=5) ?_;(refine A8 rfl (AU rfl rfl FV (HA.out _ _ _ hm)) ?_))
     |(with_reducible refine wla 137 0 hm ?_)
     |(with_reducible (first|refine ws 137 0 hm ?_|refine ws 137 1 hm ?_);clear hm;intro w hm)
      )
    go_roundw
    case rel=>exact ⟨k+1,⟨a2,V2,M2⟩,by omega,by go_num,HN.out.2,HN.out.1,hm.dropRow⟩
    case measure=>simp [intOf];omega
  |done n =>
    have HN:Hid (A7e ⟨0,0,0⟩ l=.ok (n,l.drop (k+1))):=HR;clear HR hok ht;simp only [HR.val,HT.v] at CN
    go_upto_region 9 with (first
     |(with_reducible refine wa 137 hm Nc ?_;clear hm;intro w g8 hm)
     |(go_at_call 98;refine cB (CN.out _) hm ?_;clear hm;intro w1 hm)
     |(with_reducible refine gIa (t:=22) ?_;(refine A8 rfl (Am rfl HE.out rfl rfl rfl hlt) ?_))
     |(with_reducible refine gLd (t:=5) ?_;(refine A8 rfl (AU rfl rfl FV (HA.out _ _ _ hm)) ?_))
     |(with_reducible first|(refine wla 137 0 hm ?_)|(refine ws 137 0 hm ?_;clear hm;intro w hm))
      )
    refine rO hm 8 (.rds [(0,false),(1,true),(2,false),(3,false),(4,false),(5,false),(6,false)] (.one 7 (.brk 8 11 (.rds [(9,false),(10,false)] .done)))) ?_;clear hm;intro w hm;simp only [KT.rds];refine kq ?_;refine km (fun W hm=>ld 0 hm rfl rfl rfl (ot rfl) rfl) ?_
    (refine K_p rfl rfl (fun W=>Xn rfl rfl) ?_)
    try simp only [Act.put,s3]
    iterate 2 refine kq ?_
    (refine K_p rfl rfl (fun W=>by go_simp;((rw [IntWalk.i64_in _ (by omega)];done))) ?_)
    try simp only [Act.put,s3]
    (refine K_p rfl rfl (fun W=>A2Y (l:=k+1) (h:=l.length) rfl HE.out rfl (.inr ⟨_,rfl⟩) (.inl ⟨rfl,rfl⟩) hk1 hlc) ?_)
    try simp only [Act.put,s3]
    refine DJ rfl rfl (fun K hK=>?_);go_simp;refine (CC.out _ _ _ _ hm).mono ?_;rintro e w1 ⟨X,v2,rfl,hX,hm⟩;refine hK _ _ ⟨fun W=>Own _ W _ _,fun _ h=>h.delX3,hm,?_⟩;clear hK K
    (refine Em rfl rfl (Aw 2 hm rfl rfl (Ac rfl) rfl (A0S _) rfl (A8c _) ?_))
    clear hm;intro w hm
    try simp only [puts,s2,List.set,List.eraseIdx,s3] at hm
    refine ⟨fun W=>Own _ W _ _,hm,?_⟩
    try simp only [Act.put,s3]
    iterate 2 refine kq ?_
    refine Ba ?_;go_simp;go_wp2;refine b_r (Ae rfl rfl (hm.row 2 rfl) (A0S _)) rfl ?_;rw [HN.out];exact ⟨X,v2,rfl,hX,hm.dropRow.dropRow.dropRow⟩
  |bad e =>
    have HN:Hid (A7e ⟨0,0,0⟩ l=.error e/\e ≠ 0):=h_ ⟨HR.out,by rcases hok with h|h|h<;>omega⟩;have q1:(e != 0)=true:=by simpa using HN.out.2
    clear HR hok ht CC;simp only [HR.val,HT.v] at CN
    go_wp2_with (first
     |(with_reducible refine wa 137 hm Nc ?_;clear hm;intro w g8 hm)
     |(go_at_call 98;refine cB (CN.out _) hm ?_;clear hm;intro w1 hm)
     |(with_reducible refine gIa (t:=22) ?_;(refine A8 rfl (Am rfl HE.out rfl rfl rfl hlt) ?_))
     |(with_reducible refine gLd (t:=5) ?_;(refine A8 rfl (AU rfl rfl FV (HA.out _ _ _ hm)) ?_))
     |(with_reducible first|(refine wla 137 0 hm ?_)|(refine ws 137 0 hm ?_;clear hm;intro w hm)|(refine wla 80 2 hm ?_)|(refine ws 80 2 hm ?_;clear hm;intro w hm)))
    refine b_r (Ae rfl rfl (hm.row 2 rfl) (A0S _)) rfl ?_;rw [HN.out.1];exact ⟨HN.out.2,rfl,hm.dropRow.dropRow.dropRow⟩
  ·obtain rfl:l.length=k:=by omega
   rw [List.drop_length,A7e] at hR;have HRR:=h_ hR;clear hR
   go_wp2_with (first
    |(with_reducible first|(refine wla 80 1 hm ?_)|(refine ws 80 1 hm ?_;clear hm;intro w hm)))
   refine b_r (Ae rfl rfl (hm.row 1 rfl) (A0S _)) rfl ?_;rw [HRR.out];exact ⟨by decide,rfl,hm.dropRow.dropRow⟩
variable {Q:Exit->P_} {T:I_} {l:Q_} {ss:List Sl} {id:Nat} {a b c f:Nat × A_} {P:Program} {Y rs:Rws} {w w0:World} {S:World->Prop}
theorem Fq {α:Type} (Y Z R:List α):(Z++(Y++R)).Perm (Y++(Z++R)):=xcq
theorem Own.zh {d:Nat × A_} {X:Rws} (h:Own w0 w (Y++(a::b::c::d::(X++rs))) ss):Own w0 w (a::b::c::d::(X++(Y++rs))) ss:=h.perm (by
 have e:=Fq Y ([a,b,c,d]++X) rs
 simpa only [s2,l_a] using e)
theorem Txt.A1s {d:Nat × A_} {X:Rws} {v:Value} (h:Txt Y v (vs .u8 T)) (hm:Own w0 w (a::b::c::d::f::(X++(Y++rs))) ss):From 1 w v T.length (vs .u8 T):=by
 have e:=Fq Y ([a,b,c,d,f]++X) rs;simp only [s2,l_a] at e;have h3:=From.tK (h.src (hm.perm e.symm));rwa [Ai] at h3
theorem Pg (X E rs:Rws):rs.Sublist (a::b::c::(X++(E++rs))):=((((List.sublist_append_right E rs).trans (List.sublist_append_right X _)).cons c).cons b).cons a
theorem A8U {a:Act} (hO:Own w0 w rs ss) (hS:∀ W,Own w0 W rs ss->S W) (k:Nat) (t:KT) (hm:P.follows .mixedOrders=true) (hs:Region.noSelect l.toArray=true) (hlen:t.depth=l.toArray.size)
  (hB:(!(Array.replicate l.toArray.size false).getD k false && okK l.toArray k (Qv l.toArray k) (Array.replicate l.toArray.size false) t)=true) (hQ:∀ c a d v w,Q (.panic c) (a.put d v) w->Q (.panic c) a w)
  (h:∀ w',Own w0 w' rs ss->wpK P l.toArray Q t S a w'):(Code.region id l.toArray true).wp P Q a w :=
 Kv k t S hm hs hlen hB hQ (hS _ (hO.drawn _)) (h _ (hO.drawn _))
theorem A8V (b:DS) (s:Int) (h:(FY b s).2.2.2=0):((FY b s).2.1.length:Int)+(FY b s).1.left=b.left/\0<=(FY b s).1.left/\((FY b s).2.2.1=true->(FY b s).1.left=0):=xbf
theorem V9 {d:Nat × A_} (X Y E rs:Rws):rs.Sublist (d::f::a::b::c::(X++(Y++(E++rs)))):=((((((List.sublist_append_right E rs).trans (List.sublist_append_right Y _)).trans (List.sublist_append_right X _)).cons c).cons b).cons a).cons f |>.cons d
theorem Y9 {d:Nat × A_} (X Y E rs:Rws):(X++rs).Sublist (d::f::a::b::c::(X++(Y++(E++rs)))):=(((((List.Sublist.append (List.Sublist.refl X) ((List.sublist_append_right E rs).trans (List.sublist_append_right Y _))).cons c).cons b).cons a).cons f).cons d
def kL (w0:World) (o:Except Int (I_ × Nat)) (rs:Rws) (ss:List Sl) (x:Ending) (w':World):Prop:=match o with
|.error e=>e ≠ 0/\x=.returned (.tuple #[.slice none 0 0,.int .i64 0,.int .i64 e])/\Own w0 w' rs ss
|.ok (last,many)=>∃ X v,x=.returned (.tuple #[v,.int .i64 many,.int .i64 0])/\Lies 1 X v last.length (vs .u8 last)/\Own w0 w' (X++rs) ss
theorem fA (m:Int) (m1:1<=m) (m2:m<=65536) (L:I_) (hL:L.length=258) (hLb:Bytes L) (hLk:JL L=true) (v:Value) (l:I_) (w0 w:World) (rs:Rws) (ss:List Sl) (hm:Own w0 w rs ss) (hv:∀ W,Own w0 W rs ss->In .i64 W v l) (hb:Bin l) (hn:l.length<=10000):Calls prog 104 #[.int .i64 m,.agg (J .u8 L),v] w (kL w0 (Dt L 0 0 (dNew m) l [] 0) rs ss):=by
 obtain ⟨ad,cp,rfl,_⟩:=hv w hm
 have HC:Hid (∀ W,Own w0 W rs ss->∀ k,k < l.length->∃ A,ad=some A/\W.cell? (A.add k)=some (.int .i64 (gi l k))):=h_ fun W h k hk=>by
  exact xdy
 obtain ⟨i3,hE⟩:=nR;have HE:=h_ hE;obtain ⟨i4,hE4⟩:=nP;have HEM:=h_ hE4;have HB:=h_ hb;have HL:=h_ hL;have HP:=h_ (Uk.zero hL hLb hLk);have CN:=h_ (fun w=>Yh L hL hLb hLk w);have CM:=h_ (fun w=>Zx m w);have HV2:=h_ (Xw m1 m2);have HV:=HV2;have HM:Hid ((dNew m).left=m):=h_ (by rw [Oi (by omega) (by omega)]);clear hE hE4 hb hv hL hLb hLk;go_enter func104,ntmps104
 go_wp2_with ((with_reducible refine wb hm ?_;clear hm;intro w g4 hm))
 go_step3
 go_wp2_with (first
  |(with_reducible first|(refine wa 143 hm QA ?_;clear hm;intro w g9 hm)|(refine wa 147 hm Dc ?_;clear hm;intro w g11 hm))
  |(go_at_call 127;refine cB (CN.out _) hm ?_;clear hm;intro w1 hm)
  |(go_at_call 128;refine cB (CM.out _) hm ?_;clear hm;intro w1 hm)
  |(with_reducible first|(refine wla 139 0 hm ?_ (ht:=c_z (F5 HL.out)))|(refine ws 143 0 hm ?_ (ht:=c_z (DT HL.out)) (hs:=c_z (Dn HL.out Az)) (h1:=c_z (Eb _ _ _));clear hm;intro w hm)|(refine ws 147 0 hm ?_ (ht:=c_z (BJ HV.out.len)) (hs:=c_z (BR HV.out.len BF)) (h1:=c_z (A35 _));clear hm;intro w hm)))
 go_step3
 go_wp2
 try simp only [Act.put,s3]
 go_loopw [6,7] (fun u z wr=>∃ (k:Nat) (q:Int) (i:Nat) (b:DS) (out:I_) (X E:Rws),k<=l.length/\z=.int .i64 k/\Uk L q i/\Vl b.l/\(out.length:Int)+b.left=m/\0<=b.left/\Lies 1 X u out.length (vs .u8 out)/\Dt L 0 0 (dNew m) l [] 0=Dt L q i b (l.drop k) out k/\Own w0 wr ((g11,V b)::(g9,CS L q i)::(g4,J .u8 L)::(X++(E++rs))) ss) (fun _ z _=>l.length - (intOf z).toNat)
 case atStart=>exact ⟨0,0,0,dNew m,[],[],[],by omega,rfl,HP.out,HV.out,by simpa using HM.out,by rw [HM.out];omega,Lies.nil 1,rfl,hm⟩
 case round =>
  clear hm HV HV2;obtain ⟨k,q,i,b,out,X,E,hk,rfl,hP,hV,hO,hO0,hX,hR,hm⟩:=hrel;by_cases hlt:k < l.length
  ·obtain ⟨A,rfl,hA0⟩:=HC.out _ (hm.sub (Pg X E rs) (List.Sublist.refl _)) k hlt
   have HA:Hid (∀ W {a b c:Nat × A_},Own w0 W (a::b::c::(X++(E++rs))) ss->W.cell? (A.add k)=some (.int .i64 (gi l k))):=h_ fun W a b c h=>by
    obtain ⟨A2,he,h2⟩:=HC.out _ (h.sub (Pg X E rs) (List.Sublist.refl _)) k hlt;cases he;exact h2
   have hs:=HB.out.gi k hlt;rw [List.drop_eq_getElem_cons hlt,<- BZ l k hlt,Dt] at hR;have CF:=h_ (fun w=>A59 L q (gi l k) i hP hs.1 hs.2 w);have HP2:=h_ (hP.next hs.1 hs.2);have CE:=h_ (fun w=>VJ b (pfs L q i (gi l k)).2.2.1 w hV.len hV.bytes);have HV:=h_ hV;have HV2:=h_ (Xu hV (pfs L q i (gi l k)).2.2.1);have hT:=ZB b (pfs L q i (gi l k)).2.2.1;have HD:=h_ (A8V b (pfs L q i (gi l k)).2.2.1);have HX:=h_ hX;obtain ⟨ad3,c3,rfl⟩:=hX.shape;have w3:IntKind.i64.wrap ((k:Int)+1)=((k+1:Nat):Int):=by rw [IntWalk.i64_in _ (by omega)];push_cast;rfl
   clear hA0 hs hP hV hX;generalize gi l k=x at *;generalize pfs L q i x=f at *;obtain ⟨q2,i2,sy,dn⟩:=f;generalize FY b sy=d at *;obtain ⟨d1,T,fin,e⟩:=d
   go_upto_region 4 with fail
   refine rO hm 14 (.rds [(0,true),(1,false),(2,false),(3,false),(4,true)] (.two 5 (.rds [(6,false),(7,false),(8,false),(9,false)] (.one 10 (.one 11 (.rds [(12,false),(13,false)] .done)))) 10 (.one 5 (.rds [(6,false),(7,false),(8,false),(9,false)] (.one 11 (.rds [(12,false),(13,false)] .done)))))) ?_;clear hm;intro w hm;simp only [KT.rds];refine km (fun W hm=>lda 1 hm rfl rfl rfl (DT HL.out)) ?_
   iterate 2 refine kq ?_
   (refine K_p rfl rfl (fun W=>Am rfl HE.out rfl rfl rfl hlt) ?_)
   try simp only [Act.put,s3]
   refine km (fun W hm=>AU rfl rfl BG (HA.out _ hm)) ?_;refine au ?_ ?_
   ·refine DJ rfl rfl (fun K hK=>?_);go_simp;refine (CF.out _).mono ?_;rintro e w1 ⟨rfl,hb⟩;replace hm:=hm.call hb;clear hb;refine hK _ _ ⟨fun W=>Own _ W _ _,fun _ h=>h,(by exact hm),?_⟩;clear hK K
    try simp only [Act.put,s3]
    iterate 4 refine kq ?_
    (refine Bo rfl rfl (Dl hm rfl QA ?_))
    clear hm;intro w g12 hm;refine ⟨fun W=>Own _ W _ _,fun _ h=>h,hm.dropRow,?_⟩
    try simp only [Act.put,s3]
    (refine Bo rfl rfl (Aw 0 hm rfl rfl (Ac rfl) rfl (DT HL.out) (Dn HL.out Az) (Eb _ _ _) ?_))
    clear hm;intro w hm
    try simp only [puts,s2,List.set,List.eraseIdx,s3] at hm
    refine ⟨fun W=>Own _ W _ _,fun _ h=>h,hm.dropRow,?_⟩
    try simp only [Act.put,s3]
    iterate 2 refine kq ?_
    refine Ba ?_;go_simp;cases dn with
   |false =>
     exact xbp
   |true =>
     exact xic
   ·(refine Bo rfl rfl (Dl hm rfl QA ?_))
    clear hm;intro w g12 hm;refine ⟨fun W=>Own _ W _ _,fun _ h=>h,hm.dropRow,?_⟩
    try simp only [Act.put,s3]
    refine DJ rfl rfl (fun K hK=>?_);go_simp;refine (CF.out _).mono ?_;rintro e w1 ⟨rfl,hb⟩;replace hm:=hm.call hb;clear hb;refine hK _ _ ⟨fun W=>Own _ W _ _,fun _ h=>h,(by exact hm.dropRow),?_⟩;clear hK K
    try simp only [Act.put,s3]
    iterate 4 refine kq ?_
    (refine Bo rfl rfl (Aw 0 hm rfl rfl (Ac rfl) rfl (DT HL.out) (Dn HL.out Az) (Eb _ _ _) ?_))
    clear hm;intro w hm
    try simp only [puts,s2,List.set,List.eraseIdx,s3] at hm
    refine ⟨fun W=>Own _ W _ _,fun _ h=>h,hm.dropRow,?_⟩
    try simp only [Act.put,s3]
    iterate 2 refine kq ?_
    refine Ba ?_;go_simp;cases dn with
   |false =>
     exact xbp
   |true =>
     exact xic
  ·obtain rfl:l.length=k:=by omega
   rw [List.drop_length,Dt] at hR;have HRR:=h_ hR;clear hR;go_wp2
   try rw [Exit.noGoto_ret]
   refine b_r (results_tmp3 rfl _ _ _) rfl ?_;rw [HRR.out];exact ⟨by decide,rfl,hm.sub (Pg X E rs) (List.Sublist.refl _)⟩
variable {ss:List Sl} {ga gp gr:Nat} {a b c:Nat × A_} {o:Oper} {u x y z:Operand} {rs:Rws} {w w0:World}
@[reducible] def DRw (bud md:Int) (pa pr pp sv:Value) (m p q came:Int) (bv:Value) (st told all e:Int):A_:=#[.int .i64 bud,.int .u8 md,pa,pr,pp,sv,.int .i64 m,.int .i64 p,.int .u32 q,.int .i64 came,bv,.int .i64 st,.int .i64 told,.int .u32 all,.int .i64 e]
theorem A4i {a:Act} (ho:o.op=.build 106 #[(0,x),(2,y),(3,z),(4,u)]) {b:Int} (hx:a.eval x=.int .i64 b) (hy:a.eval y=.pointer (some ⟨ga,0,none⟩)) (hz:a.eval z=.pointer (some ⟨gr,0,none⟩)) (hu:a.eval u=.pointer (some ⟨gp,0,none⟩)):(execOp a.eval o).run prog w=.ok (.value (.agg (DRw b 0 (.pointer (some ⟨ga,0,none⟩)) (.pointer (some ⟨gr,0,none⟩)) (.pointer (some ⟨gp,0,none⟩)) (.slice none 0 0) 0 0 0 0 .nilIface 0 0 0 0))) w :=
 Dq ho (by simp only [l_y,List.map_cons,List.map_nil,hx,hy,hz,hu];kernel_rfl)
theorem dcnew (b:Nat) (w0 w:World) (rs:Rws) (ss:List Sl) (hm:Own w0 w rs ss) (h1:1<=b) (h2:b<=1048576):Calls prog 17 #[.int .i64 b] w fun x w'=>∃ gd ga gx gr gp,x=.returned (.tuple #[.pointer (some ⟨gd,0,none⟩),.int .i64 0])/\Own w0 w' ((gd,DRw b 0 (.pointer (some ⟨ga,0,none⟩)) (.pointer (some ⟨gr,0,none⟩)) (.pointer (some ⟨gp,0,none⟩)) (.slice none 0 0) 0 0 0 0 .nilIface 0 0 0 0)::(gp,PR0)::(gr,RD (.slice none 0 0) 0 0 false)::(ga,AR (.slice (some ⟨gx,0,none⟩) b b) 0 0)::(gx,B (List.replicate b 0))::rs) ss:=by
 go_enter func17,ntmps17
 go_wp2_with (first
 |(go_at_call 22;have _t:=hm;refine (A6X b _ _ _ _ hm h1 h2).mono ?_;clear _t hm;rintro e w1 ⟨ga,gx,rfl,hm⟩)
 |(go_at_call 34;have _t:=hm;refine (brnew _ _ _ _ hm).mono ?_;clear _t hm;rintro e w1 ⟨gr,rfl,hm⟩)
 |(go_at_call 35;have _t:=hm;refine (pnew _ _ _ _ hm).mono ?_;clear _t hm;rintro e w1 ⟨gp,rfl,hm⟩)
 |(with_reducible refine gBu (t:=106) ?_;(refine A8 rfl (A4i rfl rfl rfl rfl) ?_))
 |(with_reducible refine wb hm ?_;clear hm;intro w gd hm))
 go_ret2
 exact ⟨gd,ga,gx,gr,gp,rfl,hm⟩
theorem dcend (gd:Nat) (bud md:Int) (pa:Value) (gr:Nat) (pp sv:Value) (m p q came:Int) (bv:Value) (st told all e:Int) (w0 w:World) (rs:Rws) (ss:List Sl) (v:Value) (bit used:Int) (hm:Own w0 w ((gd,DRw bud md pa (.pointer (some ⟨gr,0,none⟩)) pp sv m p q came bv st told all e)::(gr,RD v bit used false)::rs) ss):Calls prog 21 #[.pointer (some ⟨gd,0,none⟩)] w fun x w'=>(x=.returned (.bool true))/\Own w0 w' ((gd,DRw bud md pa (.pointer (some ⟨gr,0,none⟩)) pp sv m p q came bv st told all e)::(gr,RD v bit used true)::rs) ss:=by
 go_enter func21,ntmps21
 go_wp2_with (first
  |(go_at_call 37;have _t:=hm;refine (brend gr v bit used _ _ _ _ (hm.perm (List.Perm.swap _ _ _))).mono ?_;clear _t hm;rintro e2 w1 ⟨rfl,hm⟩;replace hm:=hm.perm (List.Perm.swap _ _ _))
  |(with_reducible refine wl 68 0 hm ?_))
 exact xg8
theorem A5u {X:Rws}:(a::b::(X++(c::rs))).Perm (b::c::(X++(a::rs))):=by
 have e:∀ (A B:Rws) (g:Nat × A_),(A++(g::B)).Perm (g::(A++B)):=fun A B g=>List.perm_middle;refine (List.Perm.swap b a _).trans (List.Perm.cons _ ?_);exact (List.Perm.cons _ (e X rs c)).trans ((List.Perm.swap c a _).trans (List.Perm.cons _ (e X rs a).symm))
theorem Own.fq {X:Rws} (h:Own w0 w (a::b::(X++(c::rs))) ss):Own w0 w (b::c::(X++(a::rs))) ss:=h.perm A5u.symm
theorem Own.unfq {X:Rws} (h:Own w0 w (b::c::(X++(a::rs))) ss):Own w0 w (a::b::(X++(c::rs))) ss:=h.perm A5u
theorem A77 (gd:Nat) (bud md:Int) (pa:Value) (gr:Nat) (pp sv:Value) (m p q came:Int) (bv:Value) (st told all e:Int) (w0 w:World) (rs:Rws) (ss:List Sl) (v:Value) (bit used:Int) (gq:Nat) (u:Value) (X:Rws) (l mm:I_) (hm:Own w0 w ((gd,DRw bud md pa (.pointer (some ⟨gr,0,none⟩)) pp sv m p q came bv st told all e)::(gr,RD v bit used false)::(X++((gq,#[u])::rs))) ss) (ht:Tail X v l) (hu:∀ W rr,Own w0 W rr ss->Src W u (vs .u8 mm)) (hl:l.length+mm.length<=1000000):Calls prog 18 #[.pointer (some ⟨gd,0,none⟩),.slice (some ⟨gq,0,none⟩) 1 1] w fun x w'=>x=.returned (.bool true)/\∃ X2 v2,Tail X2 v2 (l++mm)/\Own w0 w' ((gd,DRw bud md pa (.pointer (some ⟨gr,0,none⟩)) pp sv m p q came bv st told all e)::(gr,RD v2 bit used false)::(X2++((gq,#[u])::rs))) ss:=by
 have HT:=h_ ht;have HU:=h_ hu;clear ht hu;go_enter func18,ntmps18
 go_wp2_with (first
  |(go_at_call 36;have _t:=hm;refine (A2D gr gq X v u l mm bit used _ _ _ _ hm.fq HT.out (fun W h=>HU.out W _ h) hl).mono ?_;clear _t hm;rintro e2 w1 ⟨rfl,X2,v2,ht2,hm⟩;replace hm:=hm.unfq)
  |(with_reducible refine wl 68 0 hm ?_))
 go_ret;exact ⟨rfl,X2,v2,ht2,hm⟩
variable {b:Int} {l:I_} {ss:List Sl} {fn fr fs ft fv g g1 g2 t:Nat} {rs:Rws} {u:Value} {w w0:World}
theorem InS.one (h:Own w0 w ((g,#[u])::rs) ss) (hu:In .u8 w u l):InS w (.slice (some ⟨g,0,none⟩) 1 1) [l]:=by
 refine ⟨_,_,rfl,fun i hi=>?_⟩;simp only [List.length_cons,List.length_nil] at hi;obtain rfl:i=0:=by omega
 exact ⟨_,u,rfl,by rw [Addr.add_lit];exact (h.row 0 rfl).cell 0,hu⟩
theorem A45 (h:Own w0 w ((g2,#[.slice (some ⟨g1,0,none⟩) 1 1])::(g1,#[.int .u8 b])::rs) ss):InS w (.slice (some ⟨g2,0,none⟩) 1 1) [[b]] :=
 InS.one h ⟨_,_,rfl,fun i hi=>by
  simp only [List.length_cons,List.length_nil] at hi;obtain rfl:i=0:=by omega
  exact ⟨_,rfl,by rw [Addr.add_lit];exact (h.row 1 rfl).cell 0⟩⟩
def WKd (t fv fn fr fs ft:Nat):Prop:=(t=54/\fv=28/\fn=30/\fr=311/\fs=312/\ft=313)\/(t=57/\fv=29/\fn=31/\fr=314/\fs=315/\ft=316)
theorem A6v (gd:Nat) (bud md:Int) (pa pr pp sv:Value) (m p q came:Int) (st told all e:Int) (w0 w:World) (rs:Rws) (ss:List Sl) (hm:Own w0 w ((gd,DRw bud md pa pr pp sv m p q came (.nilIface) (st) (told) (all) e)::rs) ss):Calls prog 63 #[.pointer (some ⟨gd,0,none⟩)] w fun x w'=>(x=.returned (.tuple #[.int .u8 0,.bool false]))/\w'=w:=by
 go_enter func63,ntmps63
 go_wp2_with ((with_reducible refine wl 104 0 hm ?_))
 all_goals (go_ret2;exact ⟨rfl,rfl⟩)
theorem A7i (hk:WKd t fv fn fr fs ft):∀ (gw:Nat) (W:World),(method 488 t (.pointer (some ⟨gw,0,none⟩)) "Next").run prog W=.ok (fn,.pointer (some ⟨gw,0,none⟩)) W/\(method 488 t (.pointer (some ⟨gw,0,none⟩)) "Told").run prog W=.ok (ft,.pointer (some ⟨gw,0,none⟩)) W/\(method 488 t (.pointer (some ⟨gw,0,none⟩)) "Steps").run prog W=.ok (fs,.pointer (some ⟨gw,0,none⟩)) W/\(method 488 t (.pointer (some ⟨gw,0,none⟩)) "Valid").run prog W=.ok (fv,.pointer (some ⟨gw,0,none⟩)) W/\(method 488 t (.pointer (some ⟨gw,0,none⟩)) "Reset").run prog W=.ok (fr,.pointer (some ⟨gw,0,none⟩)) W:=fun gw W=>by
 rcases hk with ⟨rfl,rfl,rfl,rfl,rfl,rfl⟩|⟨rfl,rfl,rfl,rfl,rfl,rfl⟩
 ·exact xer
 ·exact xer
theorem A6u (t fv fn fr fs ft:Nat) (hk:WKd t fv fn fr fs ft) (gd gw:Nat) (cs cs2:A_) (b k ws:Int) (bud md:Int) (pa pr pp sv:Value) (m p q came:Int) (st told all e:Int) (w0 w:World) (rs:Rws) (ss:List Sl) (hm:Own w0 w ((gd,DRw bud md pa pr pp sv m p q came (.iface t (.pointer (some ⟨gw,0,none⟩))) (st) (told) (all) e)::(gw,cs)::rs) ss) (CN:Hid (∀ W f,Own w0 W (f::(gw,cs)::rs) ss->Calls prog fn #[.pointer (some ⟨gw,0,none⟩)] W fun x w'=>(x=.returned (.tuple #[.int .u8 b,.bool true]))/\Own w0 w' (f::(gw,cs2)::rs) ss)) (CT:Hid (∀ W f,Own w0 W (f::(gw,cs2)::rs) ss->Calls prog ft #[.pointer (some ⟨gw,0,none⟩)] W fun x w'=>(x=.returned (.int .i64 k))/\w'=W)) (CS:Hid (∀ W f,Own w0 W (f::(gw,cs2)::rs) ss->Calls prog fs #[.pointer (some ⟨gw,0,none⟩)] W fun x w'=>(x=.returned (.int .i64 ws))/\w'=W)) (t0:0<=told) (t1:told<=1000000000000) (s0:0<=st) (s1:st<=1000000000000000) (x0:0<=ws) (x1:ws<=1000000000000000):Calls prog 63 #[.pointer (some ⟨gd,0,none⟩)] w fun x w'=>(x=.returned (.tuple #[.int .u8 b,.bool true]))/\Own w0 w' ((gd,DRw bud md pa pr pp sv m p q came (if k=m then .nilIface else .iface t (.pointer (some ⟨gw,0,none⟩))) (if k=m then st+ws else st) (told+1) (crc all [[b]]) e)::(gw,cs2)::rs) ss:=by
 have w1:IntKind.i64.wrap (told+1)=told+1:=i_6;have w2:IntKind.i64.wrap (st+ws)=st+ws:=i_6;obtain ⟨i1,hE1⟩:=A4t;have HE1:=h_ hE1;obtain ⟨i2,hE2⟩:=wO;have HE2:=h_ hE2;clear hE1 hE2;have h_N:=fun W=>(A7i hk gw W).1;have h_T:=fun W=>(A7i hk gw W).2.1;have h_S:=fun W=>(A7i hk gw W).2.2.1;rcases hk with ⟨rfl,rfl,rfl,rfl,rfl,rfl⟩|⟨rfl,rfl,rfl,rfl,rfl,rfl⟩
 all_goals
  go_enter func63,ntmps63
  go_upto_region 7 with (first
   |((first|go_at_call 30|go_at_call 31);have _t:=hm;refine (CN.out _ _ hm).mono ?_;clear _t hm;rintro e1 w1 ⟨rfl,hm⟩)
   |(go_at_call 107;have _t:=hm;refine (nV all _ [[b]] _ (A45 hm) (by simp) (by simp)).mono ?_;rintro e1 w1 ⟨rfl,hb⟩;replace hm:=(hm.call hb).dropRow.dropRow;clear hb _t)
   |(with_reducible first|(refine wl 3 0 hm ?_)|(refine wl 72 0 hm ?_)|(refine wl 104 0 hm ?_)|(refine wc 3 0 hm ?_;clear hm;intro w hm)|(refine wc 72 0 hm ?_;clear hm;intro w hm))
   |(refine Ad rfl (JQ hm rfl HE1.out (Ac rfl) rfl ?_);clear hm;intro w g1 hm)
   |(refine Ad rfl (JQ hm rfl HE2.out (Ac rfl) rfl ?_);clear hm;intro w g2 hm))
  refine rO hm 11 (.rds [(0,false),(1,false),(2,false),(3,true),(5,false),(6,false),(7,false),(8,false),(9,true)] (.one 4 (.rds [(10,false)] .done))) ?_;clear hm;intro w hm;simp only [KT.rds]
  iterate 3 refine kq ?_
  refine km (fun W hm=>ld 0 hm rfl rfl rfl (ot rfl) rfl) ?_
  iterate 4 refine kq ?_
  refine km (fun W hm=>ld 0 hm rfl rfl rfl (ot rfl) rfl) ?_;refine DJ rfl rfl (fun K hK=>?_);go_simp;refine (CT.out _ _ hm).mono ?_;rintro e w1 ⟨rfl,rfl⟩;refine hK _ _ ⟨fun W=>Own _ W _ _,fun _ h=>h,hm,?_⟩;clear hK K;refine kq ?_;refine Ba ?_;go_simp;by_cases hkm:k=m
  ·subst hkm;have q1:(k == k)=true:=by simp
   go_upto_region 8 with fail
   refine rO hm 12 (.rds [(0,false),(1,false),(2,false),(3,true),(4,false),(5,false),(6,false),(7,true)] (.one 8 (.rds [(9,false),(10,false),(11,false)] (.brk 12 13 .done)))) ?_;clear hm;intro w hm;simp only [KT.rds]
   iterate 3 refine kq ?_
   refine km (fun W hm=>ld 0 hm rfl rfl rfl (ot rfl) rfl) ?_
   iterate 3 refine kq ?_
   refine km (fun W hm=>ld 0 hm rfl rfl rfl (ot rfl) rfl) ?_;refine DJ rfl rfl (fun K hK=>?_);go_simp;refine (CS.out _ _ hm).mono ?_;rintro e w1 ⟨rfl,rfl⟩;refine hK _ _ ⟨fun W=>Own _ W _ _,fun _ h=>h,hm,?_⟩;clear hK K
   (refine K_p rfl rfl (fun W=>by go_simp;(rfl)) ?_)
   try simp only [Act.put,s3]
   iterate 2 refine kq ?_
   (refine Em rfl rfl (AZ 0 hm rfl rfl (Ac rfl) rfl (ot rfl) (by simp) rfl rfl rfl ?_))
   clear hm;intro w hm
   try simp only [puts,s2,List.set,List.eraseIdx,s3] at hm
   refine ⟨fun W=>Own _ W _ _,hm,?_⟩
   try simp only [Act.put,s3]
   refine Ba ?_;go_simp
   go_wp2_with ((with_reducible refine gSt (t:=104) ?_;(refine Ad rfl (AZ 0 hm rfl rfl rfl rfl (ot rfl) (by simp) rfl rfl rfl ?_);clear hm;intro w hm;try simp only [puts,s2,List.set,List.eraseIdx,s3] at hm)))
   go_ret2
   exact ⟨rfl,hm⟩
  ·have q1:(k == m)=false:=by simp [hkm]
   go_wp2_with fail
   go_ret2
   exact ⟨rfl,hm⟩
theorem A8w (gd:Nat) (bud md:Int) (ga gr:Nat) (pp sv:Value) (m p q came:Int) (bv:Value) (st told all e:Int) (w0 w:World) (rs:Rws) (ss:List Sl) (hm:Own w0 w ((gd,DRw bud md (.pointer (some ⟨ga,0,none⟩)) (.pointer (some ⟨gr,0,none⟩)) pp sv m p q came (bv) st told all e)::rs) ss):Calls prog 43 #[.pointer (some ⟨gd,0,none⟩)] w fun x w'=>(x=.returned (.int .u8 md))/\w'=w:=by
 go_enter func43,ntmps43
 go_wp2_with (first
  |(with_reducible refine wl 5 0 hm ?_))
 exact xg7
theorem A8v (gd:Nat) (bud md:Int) (ga gr:Nat) (pp sv:Value) (m p q came:Int) (bv v:Value) (live peak:Int) (st told all e:Int) (w0 w:World) (rs:Rws) (ss:List Sl) (hm:Own w0 w ((gd,DRw bud md (.pointer (some ⟨ga,0,none⟩)) (.pointer (some ⟨gr,0,none⟩)) pp sv m p q came (bv) st told all e)::(ga,AR v live peak)::rs) ss):Calls prog 44 #[.pointer (some ⟨gd,0,none⟩)] w fun x w'=>(x=.returned (.int .i64 peak))/\w'=w:=by
 go_enter func44,ntmps44
 go_wp2_with (first
  |(go_at_call 97;refine (A8k _ _ _ _ _ (hm.row 1 rfl)).mono ?_;rintro e2 w1 ⟨rfl,rfl⟩)
  |(with_reducible refine wl 46 0 hm ?_))
 exact xg7
theorem A7Y (gd:Nat) (bud md:Int) (ga gr:Nat) (pp sv:Value) (m p q came:Int) (st told all e:Int) (w0 w:World) (rs:Rws) (ss:List Sl) (v:Value) (bit used:Int) (en:Bool) (hm:Own w0 w ((gd,DRw bud md (.pointer (some ⟨ga,0,none⟩)) (.pointer (some ⟨gr,0,none⟩)) pp sv m p q came (.nilIface) st told all e)::(gr,RD v bit used en)::rs) ss) (s0:0<=st) (s1:st<=1000000000000000) (u0:0<=used) (u1:used<=1000000):Calls prog 41 #[.pointer (some ⟨gd,0,none⟩)] w fun x w'=>(x=.returned (.int .i64 (st+used)))/\Own w0 w' ((gd,DRw bud md (.pointer (some ⟨ga,0,none⟩)) (.pointer (some ⟨gr,0,none⟩)) pp sv m p q came (.nilIface) st told all e)::(gr,RD v bit used en)::rs) ss:=by
 have w1:IntKind.i64.wrap (st+used)=st+used:=i_6;go_enter func41,ntmps41
 go_upto_region 3 with (first
  |(with_reducible refine wl 104 0 hm ?_))
 refine rO hm 11 (.rds [(0,false),(1,false),(2,false),(3,true),(4,false),(5,false),(6,false),(7,true)] (.one 8 (.rds [(9,false),(10,false)] .done))) ?_;clear hm;intro w hm;simp only [KT.rds]
 iterate 3 refine kq ?_
 refine km (fun W hm=>ld 0 hm rfl rfl rfl (ot rfl) rfl) ?_
 iterate 3 refine kq ?_
 refine km (fun W hm=>ld 0 hm rfl rfl rfl (ot rfl) rfl) ?_;refine DJ rfl rfl (fun K hK=>?_);go_simp;refine (A8g gr v bit used en _ _ _ _ (hm.perm (List.Perm.swap _ _ _))).mono ?_;rintro e w1 ⟨rfl,hm2⟩;replace hm:=hm2.perm (List.Perm.swap _ _ _).symm;clear hm2;refine hK _ _ ⟨fun W=>Own _ W _ _,fun _ h=>h,hm,?_⟩;clear hK K
 try simp only [Act.put,s3]
 (refine K_p rfl rfl (fun W=>by go_simp;(first|(rw [IntWalk.i64_in _ (by omega)];done)|(rw [IntWalk.i64_in _ (by omega)];rfl)|rfl)) ?_)
 try simp only [Act.put,s3]
 refine kq ?_;refine Ba ?_;go_simp
 go_wp2_with (first
  |(with_reducible refine wl 104 0 hm ?_))
 exact xg8
theorem prm3 {a b c:Nat × A_} {rs:Rws}:(a::b::c::rs).Perm (c::a::b::rs):=(List.Perm.swap c b rs).cons a |>.trans (List.Perm.swap c a (b::rs))
theorem A7X (t fv fn fr fs ft:Nat) (hk:WKd t fv fn fr fs ft) (gw:Nat) (cs:A_) (ws:Int) (gd:Nat) (bud md:Int) (ga gr:Nat) (pp sv:Value) (m p q came:Int) (st told all e:Int) (w0 w:World) (rs:Rws) (ss:List Sl) (v:Value) (bit used:Int) (en:Bool) (hm:Own w0 w ((gd,DRw bud md (.pointer (some ⟨ga,0,none⟩)) (.pointer (some ⟨gr,0,none⟩)) pp sv m p q came (.iface t (.pointer (some ⟨gw,0,none⟩))) st told all e)::(gw,cs)::(gr,RD v bit used en)::rs) ss) (CS:Hid (∀ W f R,Own w0 W (f::(gw,cs)::R) ss->Calls prog fs #[.pointer (some ⟨gw,0,none⟩)] W fun x w'=>(x=.returned (.int .i64 ws))/\w'=W)) (s0:0<=st) (s1:st<=1000000000000000) (u0:0<=used) (u1:used<=1000000) (x0:0<=ws) (x1:ws<=1000000000000000):Calls prog 41 #[.pointer (some ⟨gd,0,none⟩)] w fun x w'=>(x=.returned (.int .i64 (st+used+ws)))/\Own w0 w' ((gd,DRw bud md (.pointer (some ⟨ga,0,none⟩)) (.pointer (some ⟨gr,0,none⟩)) pp sv m p q came (.iface t (.pointer (some ⟨gw,0,none⟩))) st told all e)::(gw,cs)::(gr,RD v bit used en)::rs) ss:=by
 have w1:IntKind.i64.wrap (st+used)=st+used:=i_6;have w2:IntKind.i64.wrap (st+used+ws)=st+used+ws:=i_6;have h_S:=fun W=>(A7i hk gw W).2.2.1;rcases hk with ⟨rfl,rfl,rfl,rfl,rfl,rfl⟩|⟨rfl,rfl,rfl,rfl,rfl,rfl⟩
 all_goals
  go_enter func41,ntmps41
  go_upto_region 3 with (first
   |(with_reducible refine wl 104 0 hm ?_))
  refine rO hm 11 (.rds [(0,false),(1,false),(2,false),(3,true),(4,false),(5,false),(6,false),(7,true)] (.one 8 (.rds [(9,false),(10,false)] .done))) ?_;clear hm;intro w hm;simp only [KT.rds]
  iterate 3 refine kq ?_
  refine km (fun W hm=>ld 0 hm rfl rfl rfl (ot rfl) rfl) ?_
  iterate 3 refine kq ?_
  refine km (fun W hm=>ld 0 hm rfl rfl rfl (ot rfl) rfl) ?_;refine DJ rfl rfl (fun K hK=>?_);go_simp;refine (A8g gr v bit used en _ _ _ _ (hm.perm prm3.symm)).mono ?_;rintro e w1 ⟨rfl,hm2⟩;replace hm:=hm2.perm prm3.symm.symm;clear hm2;refine hK _ _ ⟨fun W=>Own _ W _ _,fun _ h=>h,hm,?_⟩;clear hK K
  try simp only [Act.put,s3]
  (refine K_p rfl rfl (fun W=>by go_simp;(first|(rw [IntWalk.i64_in _ (by omega)];done)|(rw [IntWalk.i64_in _ (by omega)];rfl)|rfl)) ?_)
  try simp only [Act.put,s3]
  refine kq ?_;refine Ba ?_;go_simp
  go_wp2_with (first
   |((first|go_at_call 312|go_at_call 315);refine (CS.out _ _ _ hm).mono ?_;rintro e1 w1 ⟨rfl,rfl⟩)
   |(with_reducible refine wl 104 0 hm ?_))
  exact xg8
theorem Own.A4j {w0 w:World} {p q r s:Nat × A_} {rs:Rws} {ss:List Sl} (h:Own w0 w (p::q::r::s::rs) ss):Own w0 w (r::s::p::q::rs) ss:=h.perm ((List.perm_append_comm (l₁:=[r,s]) (l₂:=[p,q])).append_right rs)
theorem A6y (kd n1 m1 p1 s1:Int) (v:Value) (e1:Int) (gd:Nat) (bud md:Int) (pa pr pp sv:Value) (m p q came:Int) (bv:Value) (st told all e:Int) (w0 w:World) (rs:Rws) (ss:List Sl) (hm:Own w0 w ((gd,DRw bud md pa pr pp (sv) (m) (p) (q) (came) (bv) (st) (told) (all) (e))::rs) ss):Calls prog 59 #[.pointer (some ⟨gd,0,none⟩),.agg (EVT kd n1 m1 p1 s1 v e1)] w fun x w'=>(x=.returned (.int .i64 0))/\Own w0 w' ((gd,DRw bud md pa pr pp (sv) (m1) (p1) (s1) (0) (bv) (st) (told) (all) (e))::rs) ss:=by
 go_enter func59,ntmps59
 go_wp2_with (first
  |(with_reducible refine gLd (t:=74) ?_;((refine A8 rfl (ld3 0 hm rfl rfl rfl (ag rfl) rfl rfl rfl) ?_)))
  |(with_reducible refine gSt (t:=3) ?_;((refine Ad rfl (AZ 1 hm rfl rfl rfl rfl (ot rfl) (by simp) rfl rfl rfl ?_);clear hm;intro w hm;try simp only [puts,s2,List.set,List.eraseIdx,s3] at hm)))
  |(with_reducible first|(refine wu 74 1 hm ?_;clear hm;intro w hm)|(refine wb hm ?_;clear hm;intro w g hm)))
 exact xdf
theorem A6R (kd n1 m1 p1 s1:Int) (v:Value) (e1:Int) (gd:Nat) (bud md:Int) (pa pr pp sv:Value) (m p q came:Int) (bv:Value) (st told all e:Int) (w0 w:World) (rs:Rws) (ss:List Sl) (hm:Own w0 w ((gd,DRw bud md pa pr pp (sv) (m) (p) (q) (came) (bv) (st) (told) (all) (e))::rs) ss):Calls prog 62 #[.pointer (some ⟨gd,0,none⟩),.agg (EVT kd n1 m1 p1 s1 v e1)] w fun x w'=>(x=.returned (.int .i64 (if s1=all then 0 else 260)))/\Own w0 w' ((gd,DRw bud md pa pr pp (sv) (m) (p) (q) (came) (bv) (st) (told) (all) (e))::rs) ss:=by
 go_enter func62,ntmps62
 go_upto_region 1 with ((with_reducible refine wb hm ?_;clear hm;intro w g hm))
 refine rO hm 8 (.rds [(0,false),(1,false),(2,true),(3,false),(4,false),(5,false),(6,true),(7,false)] .done) ?_;clear hm;intro w hm;simp only [KT.rds]
 iterate 2 refine kq ?_
 refine km (fun W hm=>ld 0 hm rfl rfl rfl (ot rfl) rfl) ?_
 iterate 3 refine kq ?_
 refine km (fun W hm=>ld 1 hm rfl rfl rfl (ot rfl) rfl) ?_;refine kq ?_;refine Ba ?_;go_simp;by_cases hq:s1=all
 ·subst hq;have q1:(s1 != s1)=false:=by simp
  go_wp2;exact xdf
 ·have q1:(s1 != all)=true:=by simpa using hq
  go_wp2;exact xdf
theorem A6S (gd ga gx gs gt sp spc n k tcap:Nat) (sc tc:A_) (l t:I_) (live peak:Int) (bud md:Int) (pr pp:Value) (m p q:Int) (bv:Value) (st told all e:Int) (kd n1 m1 p1 s1 e1:Int) (w0 w:World) (rs:Rws) (ss:List Sl) (hm:Own w0 w ((gd,DRw bud md (.pointer (some ⟨ga,0,none⟩)) pr pp (.slice (some ⟨gs,sp,none⟩) 2 spc) m p q ((k:Int)) bv st told all e)::(ga,AR (.slice (some ⟨gx,0,none⟩) l.length l.length) live peak)::(gx,B l)::(gs,sc)::(gt,tc)::rs) ss) (h0:sc[sp]?=some (.int .i64 0)) (h1:sc[sp+1]?=some (.int .i64 n)) (ht:∀ (j:Nat) (u:Value),(vs .u8 t)[j]?=some u->tc[j]?=some u) (hn:(n:Int)<=live) (hl:live<=l.length) (hb:l.length<=1048576) (hk:k+t.length<=n) (t0:0 < t.length):Calls prog 60 #[.pointer (some ⟨gd,0,none⟩),.agg (EVT kd n1 m1 p1 s1 (.slice (some ⟨gt,0,none⟩) t.length tcap) e1)] w fun x w'=>(x=.returned (.int .i64 0))/\Own w0 w' ((gd,DRw bud md (.pointer (some ⟨ga,0,none⟩)) pr pp (.slice (some ⟨gs,sp,none⟩) 2 spc) m p q (((k+t.length:Nat):Int)) bv st told all e)::(ga,AR (.slice (some ⟨gx,0,none⟩) l.length l.length) live peak)::(gx,B (A3c l (0+k) t))::(gs,sc)::(gt,tc)::rs) ss:=by
 have HS0:Hid (sc[sp+0 * 2]?=some (.int .i64 0)):=h_ (by simpa using h0);have HS1:Hid (sc[sp+0 * 2+1]?=some (.int .i64 n)):=h_ (by simpa using h1)
 have HT:Hid (∀ W f R,Own w0 W (f::(gd,R)::(ga,AR (.slice (some ⟨gx,0,none⟩) l.length l.length) live peak)::(gx,B l)::(gs,sc)::(gt,tc)::rs) ss->∀ (j:Nat) (u:Value),(vs .u8 t)[j]?=some u->W.cell? ((⟨gt,0,none⟩:Addr).add j)=some u):=h_ fun W f R h j u hj=>by
  rw [Addr.add_lit,Nat.zero_add];have:=(h.row 5 rfl).cell j;rw [this];exact ht j u hj
 clear h0 h1 ht;obtain ⟨i1,hE⟩:=A5v;have HE:=h_ hE;clear hE;have w1:IntKind.i64.wrap ((k:Int)+t.length)=((k+t.length:Nat):Int):=by rw [IntWalk.i64_in _ (by omega)];push_cast;rfl
 go_enter func60,ntmps60
 go_upto_region 1 with ((with_reducible refine wb hm ?_;clear hm;intro w g hm))
 refine rO hm 16 (.rds [(0,false),(1,false),(2,false),(3,true),(4,false),(5,false),(6,false),(7,true),(8,false),(9,true),(10,false),(11,false),(12,false),(13,true),(14,false),(15,true)] (.brk 16 17 .done)) ?_;clear hm;intro w hm;simp only [KT.rds]
 iterate 3 refine kq ?_
 refine km (fun W hm=>ld 1 hm rfl rfl rfl (ot rfl) rfl) ?_
 iterate 3 refine kq ?_
 refine km (fun W hm=>ld 1 hm rfl rfl rfl (ot rfl) rfl) ?_
 (refine K_p rfl rfl (fun W=>ix (k:=0) rfl HE.out rfl rfl rfl (by omega)) ?_)
 try simp only [Act.put,s3]
 refine km (fun W hm=>ld2 4 hm rfl rfl rfl (ag rfl) HS0.out HS1.out) ?_
 iterate 3 refine kq ?_
 refine km (fun W hm=>ld 1 hm rfl rfl rfl (ot rfl) rfl) ?_;refine kq ?_;refine km (fun W hm=>ld 0 hm rfl rfl rfl (ot rfl) rfl) ?_;refine PO rfl rfl (fun K hK=>?_);go_simp;refine (A6l ga gx 0 n k l t ⟨gt,0,none⟩ tcap live peak _ _ _ _ hm.A4j (HT.out _ _ _ hm) (by omega) (by omega) (by omega) (by omega) (by omega)).mono ?_;rintro e w1 ⟨rfl,hm⟩;replace hm:=hm.A4j;refine hK _ _ ⟨fun W=>Own _ W _ _,hm,?_⟩;clear hK K;refine Ba ?_;go_simp
 go_upto_region 2 with fail
 refine rO hm 10 (.rds [(0,false),(1,false),(2,false),(3,true),(4,false),(5,true),(6,false),(7,false),(8,false),(9,false)] (.brk 10 11 .done)) ?_;clear hm;intro w hm;simp only [KT.rds]
 iterate 3 refine kq ?_
 refine km (fun W hm=>ld 1 hm rfl rfl rfl (ot rfl) rfl) ?_;refine kq ?_;refine km (fun W hm=>ld 0 hm rfl rfl rfl (ot rfl) rfl) ?_;refine kq ?_
 (refine K_p rfl rfl (fun W=>by go_simp;(rfl)) ?_)
 try simp only [Act.put,s3]
 iterate 2 refine kq ?_
 ((refine Em rfl rfl (AZ 1 hm rfl rfl (Ac rfl) rfl (ot rfl) (by simp) rfl rfl rfl ?_)))
 clear hm;intro w hm
 try simp only [puts,s2,List.set,List.eraseIdx,s3] at hm
 refine ⟨fun W=>Own _ W _ _,hm,?_⟩
 try simp only [Act.put,s3]
 refine Ba ?_;go_simp;go_wp2;exact xdf
variable {en:Bool} {c c2:Cf} {b:DS} {N g m p q:Int} {l:I_} {ph0 ro0 ro1:Nat}
theorem Xv (b:DS) (s:Int) (h:(FY b s).2.2.2=0):((FY b s).2.1.length:Int)+(FY b s).1.left=b.left/\0<=(FY b s).1.left/\((FY b s).2.2.1=true->(FY b s).1.left=0):=xbf
theorem A53 (h:Vl l) (p:Int):0<=takeC l p/\takeC l p < 256:=by
 unfold takeC;split
 ·rename_i hp;exact h.bytes.gi _ (by rw [h.len];omega)
 ·omega
theorem eU (h:Vl b.l) (s:Int):Bytes (FY b s).2.1:=by
 have hr:Bytes b.rep:=fun x hx=>by
  rw [DS.rep] at hx;rw [List.eq_of_mem_replicate hx];exact h.bytes.gi 0 (by rw [h.len];omega)
 have hn:Bytes ([]:I_):=fun x hx=>by cases hx
 rw [FY];split
 ·split
  ·rw [G9];split
   ·exact hn
   ·split
    ·exact hr
    ·split
     ·exact hn
     ·intro x hx;rcases List.mem_append.1 hx with hx|hx
      ·exact hr x hx
      ·rw [List.mem_singleton.1 hx];exact A53 h _
  ·exact hn
 ·exact hn
def PS.ph:PS->Nat
|.head _=>0
|.table _ _ _ _ _=>2
|.syms _ _ _ _ _ _ _ _=>2
|.pad _ _ _ _=>2
|_=>1
def Cf.ro (c:Cf):Nat:=if c.s.ph=2 then c.R.length+1 else c.R.length
def Hd (N m p q n k a b:Int):Prop:=n=N/\1<=n/\n<=65536/\m=k/\p=a/\q=b/\1<=k/\k<=n/\1<=a/\a<=k/\0<=b/\b < 4294967296
def EI (c:Cf) (N m p q g:Int):Prop:=Bytes c.R/\c.j<=8 * c.R.length/\match c.s with
|.head t=>t.ok
|.mark n t=>n=N/\1<=n/\n<=65536/\t.ok n
|.table n k a b _=>Hd N m p q n k a b/\g=0
|.syms n k a b _ _ _ d=>Hd N m p q n k a b/\g+d.left=m/\0<=d.left/\Vl d.l/\1<=c.j
|.pad n k a b=>Hd N m p q n k a b/\g=m/\1<=c.j
|_=>True
def A6d (ph0 ro0:Nat) (c2:Cf) (N m p q g:Int):Evt->Prop
|.head n=>ph0=0/\c2.s.ph=1/\c2.ro<=ro0/\1<=n/\n<=65536/\∀ m p q g,EI c2 n m p q g
|.block k a b=>ph0=1/\c2.s.ph=2/\c2.ro<=ro0/\EI c2 N k a b 0/\Hd N k a b N k a b
|.bytes t=>ph0=2/\c2.s.ph=2/\c2.ro<=ro0/\g+t.length<=m/\m<=N/\Bytes t/\EI c2 N m p q (g+t.length)
|.U5 k a b=>ph0=2/\c2.s.ph=1/\c2.ro+1<=ro0/\g=m/\Hd N m p q N m p q/\EI c2 N m p q g
|.tail s=>ph0=1/\c2.s.ph=1/\c2.ro<=ro0/\0<=s/\s < 4294967296/\EI c2 N m p q g
|.need=>c2.s.ph=ph0/\c2.ro<=ro0/\EI c2 N m p q g
|.fin=>ph0=1/\c2.s.ph=1/\c2.ro<=ro0/\EI c2 N m p q g
|_=>c2.s.ph=1/\c2.ro<=ro0/\EI c2 N m p q g
def EIo (ph0 ro0:Nat) (c2:Cf) (N m p q g:Int):Option Evt->Prop
|none=>c2.s.ph=ph0/\c2.ro<=ro0/\EI c2 N m p q g
|some ev=>A6d ph0 ro0 c2 N m p q g ev
theorem A3N {R:I_} (h:Bytes R) (k:Nat):Bytes (R.drop k):=fun x hx=>h x (List.mem_of_mem_drop hx)
theorem EI.step {c:Cf} {N m p q g:Int} (h:EI c N m p q g):EIo c.s.ph c.ro (AB c).2 N m p q g (AB c).1:=by
 obtain ⟨s,R,j⟩:=c;obtain ⟨hb,hj0,h⟩:=h;simp only at hb hj0;cases s with
|head t =>
  simp only at h;cases R with
 |nil=>exact ⟨rfl,by simp [Cf.ro,PS.ph,AB],hb,hj0,trivial⟩
 |cons x R =>
   have h0:=hb x (by simp);have hb2:Bytes R:=fun y hy=>hb y (List.mem_cons_of_mem _ hy);have hok:=HT.step_ok h h0.1 (show x<=255 by omega);simp only [AB];cases hr:t.step x with
  |go t2=>rw [hr] at hok;exact ⟨rfl,by simp [Cf.ro,PS.ph,Qs],hb2,Nat.zero_le _,hok⟩
  |done n=>rw [hr] at hok;exact ⟨rfl,rfl,by simp [Cf.ro,PS.ph,Qs],hok.1,hok.2,fun _ _ _ _=>⟨hb2,Nat.zero_le _,rfl,hok.1,hok.2,trivial⟩⟩
  |bad e=>exact ⟨rfl,by simp [Cf.ro,PS.ph,Qs],hb2,Nat.zero_le _,trivial⟩
|mark n t =>
  simp only at h;obtain ⟨rfl,n1,n2,ho⟩:=h;cases R with
 |nil=>exact ⟨rfl,by simp [Cf.ro,PS.ph,AB],hb,hj0,trivial⟩
 |cons x R =>
   have h0:=hb x (by simp);have hb2:Bytes R:=fun y hy=>hb y (List.mem_cons_of_mem _ hy);have hok:=MT.step_ok n1 n2 ho h0.1 (show x<=255 by omega);simp only [AB];cases hr:MT.step n x t with
  |go t2=>rw [hr] at hok;exact ⟨rfl,by simp [Cf.ro,PS.ph,MX],hb2,Nat.zero_le _,rfl,n1,n2,hok⟩
  |block k a b =>
    rw [hr] at hok;obtain ⟨k1,k2,a1,a2,b1,b2⟩:=hok;exact ⟨rfl,rfl,by simp [Cf.ro,PS.ph,MX],⟨hb2,Nat.zero_le _,⟨rfl,n1,n2,rfl,rfl,rfl,k1,k2,a1,a2,b1,b2⟩,rfl⟩,⟨rfl,n1,n2,rfl,rfl,rfl,k1,k2,a1,a2,b1,b2⟩⟩
  |tail s=>rw [hr] at hok;exact ⟨rfl,rfl,by simp [Cf.ro,PS.ph,MX],hok.1,hok.2,hb2,Nat.zero_le _,trivial⟩
  |bad=>exact ⟨rfl,by simp [Cf.ro,PS.ph,MX],hb2,Nat.zero_le _,trivial⟩
|table n k a b t =>
  obtain ⟨hh,rfl⟩:=h;simp only [AB];split
  ·rename_i hj;rw [Oj];split
   ·split
    ·have hm:dNew k=⟨new,k,0,0,false⟩:=Oi (by have:=hh.2.2.2.2.2.2;omega) (by have:=hh.2.2;omega);exact ⟨rfl,Nat.le_refl _,hb,hj,hh,by rw [hm];simp only;have:=hh.2.2.2.1;omega,by rw [hm];simp only;have:=hh.2.2.2.2.2.2;omega,by rw [hm];exact A1E,by simp⟩
    ·exact ⟨rfl,Nat.le_refl _,hb,hj,hh,rfl⟩
   ·exact ⟨rfl,by simp [Cf.ro,PS.ph],hb,hj,trivial⟩
  ·exact ⟨rfl,by simp [Cf.ro,PS.ph],hb,hj0,trivial⟩
|syms n k a b L u i d =>
  obtain ⟨hh,hg,hl,hv,hj1⟩:=h;simp only [AB];split
  ·rename_i hj;rw [eY];split
   ·have hd:=Xv d (pfs L u i (AP R j)).2.2.1;have hdb:=eU hv (pfs L u i (AP R j)).2.2.1;have hdv:=Xu hv (pfs L u i (AP R j)).2.2.1;generalize FY d (pfs L u i (AP R j)).2.2.1=o at *;rw [MQ];split
    ·rename_i h0;obtain ⟨h1,h2,h3⟩:=hd h0;have hmN:=hh;obtain ⟨e1,_,_,e2,_,_,_,e3,_⟩:=hmN;by_cases ht:0 < o.2.1.length
     ·rw [if_pos ht];cases hf:o.2.2.1 with
     |true=>have:=h3 hf;exact ⟨rfl,rfl,Nat.le_refl _,by omega,by omega,hdb,hb,hj,hh,by omega,by simp⟩
     |false=>exact ⟨rfl,rfl,Nat.le_refl _,by omega,by omega,hdb,hb,hj,hh,by omega,h2,hdv,by simp⟩
     ·rw [if_neg ht];cases hf:o.2.2.1 with
     |true=>have:=h3 hf;exact ⟨rfl,Nat.le_refl _,hb,hj,hh,by omega,by simp⟩
     |false=>exact ⟨rfl,Nat.le_refl _,hb,hj,hh,by omega,h2,hdv,by simp⟩
    ·exact ⟨rfl,by simp [Cf.ro,PS.ph],hb,hj,trivial⟩
   ·exact ⟨rfl,Nat.le_refl _,hb,hj,hh,hg,hl,hv,by simp⟩
  ·exact ⟨rfl,by simp [Cf.ro,PS.ph],hb,hj0,trivial⟩
|pad n k a b =>
  obtain ⟨hh,hg,hj1⟩:=h;simp only at hj1;simp only [AB];split
  ·obtain ⟨rfl,n1,n2,rfl,rfl,rfl,h2⟩:=hh;exact ⟨rfl,rfl,by simp [Cf.ro,PS.ph]<;>omega,hg,⟨rfl,n1,n2,rfl,rfl,rfl,h2⟩,A3N hb _,Nat.zero_le _,rfl,n1,n2,trivial⟩
  ·exact ⟨rfl,by simp [Cf.ro,PS.ph]<;>omega,A3N hb _,Nat.zero_le _,trivial⟩
|behind =>
  simp only [AB];split
  ·exact ⟨rfl,Nat.le_refl _,hb,hj0,trivial⟩
  ·exact ⟨rfl,rfl,Nat.le_refl _,hb,hj0,trivial⟩
|over=>exact ⟨rfl,rfl,Nat.le_refl _,hb,hj0,trivial⟩
|bad e=>exact ⟨rfl,Nat.le_refl _,hb,hj0,trivial⟩
theorem EI.A6m (h:EI c N m p q g):EIo c.s.ph c.ro (A7f en c).2 N m p q g (A7f en c).1:=by
 unfold A7f;split
 ·exact ⟨rfl,Nat.le_refl _,h⟩
 ·exact h.step
theorem A6d.mono {ev:Evt} (h:A6d ph0 ro0 c2 N m p q g ev) (hr:ro0<=ro1):A6d ph0 ro1 c2 N m p q g ev:=by
 cases ev with
|head n=>exact ⟨h.1,h.2.1,Nat.le_trans h.2.2.1 hr,h.2.2.2⟩
|block k a b=>exact ⟨h.1,h.2.1,Nat.le_trans h.2.2.1 hr,h.2.2.2⟩
|bytes t=>exact ⟨h.1,h.2.1,Nat.le_trans h.2.2.1 hr,h.2.2.2⟩
|U5 k a b=>exact ⟨h.1,h.2.1,Nat.le_trans h.2.2.1 hr,h.2.2.2⟩
|tail s=>exact ⟨h.1,h.2.1,Nat.le_trans h.2.2.1 hr,h.2.2.2⟩
|need=>exact ⟨h.1,Nat.le_trans h.2.1 hr,h.2.2⟩
|fin=>exact ⟨h.1,h.2.1,Nat.le_trans h.2.2.1 hr,h.2.2.2⟩
|bad e=>exact ⟨h.1,Nat.le_trans h.2.1 hr,h.2.2⟩
theorem NxE.ei {ev:Evt} (h:NxE en c ev c2) (hi:EI c N m p q g):A6d c.s.ph c.ro c2 N m p q g ev:=by
 induction h with
|now h=>have:=hi.A6m (en:=en);rwa [h] at this
|later h _ ih =>
  have:=hi.A6m (en:=en);rw [h] at this;have h2:=ih this.2.2;rw [this.1] at h2;exact h2.mono this.2.1
theorem A5o (c:Cf):(AB c).1 ≠ some .need:=by
 obtain ⟨s,R,j⟩:=c;cases s with
|head t =>
  cases R with
 |nil=>simp [AB]
 |cons x R=>simp only [AB];cases t.step x<;>simp [Qs]
|mark n t =>
  cases R with
 |nil=>simp [AB]
 |cons x R=>simp only [AB];cases t.step n x<;>simp [MX]
|table n k a b t =>
  simp only [AB];split
  ·rw [Oj];split
   ·split<;>simp
   ·simp
  ·simp
|syms n k a b L u i d =>
  simp only [AB];split
  ·rw [eY];split
   ·rw [MQ];split
    ·split<;>simp
    ·simp
   ·simp
  ·simp
|pad n k a b=>simp only [AB];split<;>simp
|behind=>simp only [AB];split<;>simp
|over=>simp [AB]
|bad e=>simp [AB]
theorem NxE.A6r {ev:Evt} (h:NxE true c ev c2):ev ≠ .need:=by
 induction h with
|now h =>
  rintro rfl;have:A7f true=AB:=rfl;rw [this] at h;exact A5o _ (by rw [h])
|later _ _ ih=>exact ih
variable {ss:List Sl} {a b:Nat × A_} {rs:Rws} {w w0:World}
def MR.st:MR->A_
|.block m p s=>MS 4 0 0 m p s 4
|.tail s=>MS 6 0 0 0 0 s 4
|_=>MS 0 0 0 0 0 0 0
def yN (w0:World) (o:Except Int (MR × I_)) (rs:Rws) (ss:List Sl) (x:Ending) (w':World):Prop:=match o with
|.error e=>e ≠ 0/\x=.returned (.tuple #[.agg (MS 0 0 0 0 0 0 0),.slice none 0 0,.int .i64 e])/\Own w0 w' rs ss
|.ok (r,R)=>∃ X v,x=.returned (.tuple #[.agg r.st,v,.int .i64 0])/\Lies 1 X v R.length (vs .u8 R)/\Own w0 w' (X++rs) ss
theorem Own.unX2 {X:Rws} (h:Own w0 w (X++(a::b::rs)) ss):Own w0 w (a::b::(X++rs)) ss:=h.perm (by
 have e:(X++([a,b]++rs)).Perm ([a,b]++(X++rs)):=by
  exact xcq
 exact e.symm)
theorem Own.A1t {X:Rws} (h:Own w0 w (a::b::(X++rs)) ss):Own w0 w (a::b::rs) ss:=h.sub (List.Sublist.cons_cons _ (List.Sublist.cons_cons _ (List.sublist_append_right X rs))) (List.Sublist.refl _)
theorem VB (v:Value) (n:Int) (n1:1<=n) (n2:n<=65536) (l:I_) (w0 w:World) (rs:Rws) (ss:List Sl) (hm:Own w0 w rs ss) (hv:∀ W,Own w0 W rs ss->InC .u8 W v l) (hb:Bytes l) (hn:l.length<=1000):Calls prog 46 #[.int .i64 n,v] w (yN w0 (BO n .mark l) rs ss):=by
 obtain ⟨ad,cp,rfl,hlc,_⟩:=hv w hm;have HI:Hid (∀ W,Own w0 W rs ss->In .u8 W (.slice ad l.length cp) l):=h_ fun W h=>(hv W h).zu
 have HC:Hid (∀ W,Own w0 W rs ss->∀ k,k < l.length->∃ A,ad=some A/\W.cell? (A.add k)=some (.int .u8 (gi l k))):=h_ fun W h k hk=>by
  exact xdr
 obtain ⟨i3,hE⟩:=Md;have HE:=h_ hE;have HB:=h_ hb;have q0:wi n 1 65536=true:=by simp [wi,n1,n2]
 have CW:Hid (∀ w,Calls prog 100 #[.int .i64 n,.int .i64 1,.int .i64 65536] w fun x w'=>(x=.returned (.bool true))/\w'=w):=h_ fun w=>by
  have h:=FX n 1 65536 w;rwa [q0] at h
 clear q0;clear hE hb hv;go_enter func46,ntmps46
 go_wp2_with (first
 |(with_reducible refine wa 88 hm FM ?_;clear hm;intro w g4 hm)
 |(go_at_call 100;refine (CW.out _).mono ?_;rintro x w1 ⟨rfl,rfl⟩))
 go_loopw [18] (fun u wr=>∃ (k:Nat) (t:MT),k<=l.length/\u=.int .i64 k/\t.ok n/\BO n .mark l=BO n t (l.drop k)/\Own w0 wr ((g4,t.v)::rs) ss) (fun u _=>l.length - (intOf u).toNat)
 case atStart=>exact ⟨0,.mark,by omega,rfl,trivial,rfl,hm⟩
 case round =>
  clear hm;obtain ⟨k,t,hk,rfl,ht,hR,hm⟩:=hrel;by_cases hlt:k < l.length
  ·obtain ⟨A,rfl,hA0⟩:=HC.out _ hm.dropRow k hlt
   have HA:Hid (∀ W (a:Nat × A_),Own w0 W (a::rs) ss->W.cell? (A.add k)=some (.int .u8 (gi l k))):=h_ fun W a h=>by
    obtain ⟨A2,he,h2⟩:=HC.out _ h.dropRow k hlt;cases he;exact h2
   have CC:Hid (∀ W (a b:Nat × A_),Own w0 W (a::b::rs) ss->Calls prog 99 #[.slice (D8 (some A) cp (k+1)) (l.length - (k+1)) (cp - (k+1))] W fun x w'=>∃ X v,x=.returned v/\Lies 1 X v (l.drop (k+1)).length (vs .u8 (l.drop (k+1)))/\Own w0 w' (a::b::(X++rs)) ss):=h_ fun W a b h=>by
    refine (clone_any _ (l.drop (k+1)) W (In.from (HI.out _ h.dropRow.dropRow) (by omega) hlc) (by simp;omega)).mono fun x w' hx=>?_;obtain ⟨X,v,rfl,hX,hm⟩:=h.ofB hx;exact ⟨X,v,rfl,hX,hm.unX2⟩
   have hs:=HB.out (gi l k) (by rw [BZ l k hlt];exact List.getElem_mem _);have hk1:k+1<=l.length:=hlt;rw [List.drop_eq_getElem_cons hlt,<- BZ l k hlt,BO] at hR;have CN:=h_ (fun w=>Vo n n1 n2 t ht (gi l k) hs.1 (by omega) w);have hok:=MT.step_ok n1 n2 ht hs.1 (show gi l k<=255 by omega);have HR:=h_ hR;clear hA0 hR hs;obtain ⟨a,V,M,m,p,s,q,hv⟩:=MT.qK t;rw [hv] at hm CN;clear hv;generalize gi l k=x at *;generalize MT.step n x t=r at *;cases r with
  |go t2 =>
    have hR:=HR.out;clear HR CC;have HN:Hid (BO n .mark l=BO n t2 (l.drop (k+1))/\t2.ok n):=h_ ⟨hR,hok⟩;clear hR hok ht;obtain ⟨a2,V2,M2,m2,p2,s2,k2,hv2⟩:=MT.qK t2;simp only [MR.val,hv2] at CN
    go_wp2_with (first
     |(with_reducible refine wa 88 hm FM ?_;clear hm;intro w g9 hm)
     |(go_at_call 101;refine cB (CN.out _) hm ?_;clear hm;intro w1 hm)
     |(with_reducible refine gIa (t:=22) ?_;(refine A8 rfl (Am rfl HE.out rfl rfl rfl hlt) ?_))
     |(with_reducible refine gLd (t:=5) ?_;(refine A8 rfl (AU rfl rfl FV (HA.out _ _ hm)) ?_))
     |(with_reducible refine wla 88 0 hm ?_)
     |(with_reducible (first|refine ws 88 0 hm ?_|refine ws 88 1 hm ?_);clear hm;intro w hm)
      )
    go_roundw
    case rel=>exact ⟨k+1,t2,by omega,by go_num,HN.out.2,HN.out.1,by rw [hv2];exact hm.dropRow⟩
    case measure=>simp [intOf];omega
  |block m2 p2 s2 =>
    have HN:Hid (BO n .mark l=.ok (MR.block m2 p2 s2,l.drop (k+1))):=h_ (by rw [HR.out]);exact xar
  |tail s2 =>
    have HN:Hid (BO n .mark l=.ok (MR.tail s2,l.drop (k+1))):=h_ (by rw [HR.out]);exact xar
  |bad =>
    have HN:Hid (BO n .mark l=.error 242):=HR;clear HR hok ht CC;simp only [MR.val] at CN
    go_wp2_with (first
     |(with_reducible refine wa 88 hm FM ?_;clear hm;intro w g9 hm)
     |(go_at_call 101;refine cB (CN.out _) hm ?_;clear hm;intro w1 hm)
     |(with_reducible refine gIa (t:=22) ?_;(refine A8 rfl (Am rfl HE.out rfl rfl rfl hlt) ?_))
     |(with_reducible refine gLd (t:=5) ?_;(refine A8 rfl (AU rfl rfl FV (HA.out _ _ hm)) ?_))
     |(with_reducible refine wla 88 0 hm ?_)
     |(with_reducible (first|refine ws 88 0 hm ?_|refine ws 88 1 hm ?_);clear hm;intro w hm)
     |(with_reducible refine gBu (t:=88) ?_;(refine A8 rfl (Ir rfl) ?_)))
    refine b_r (Ae rfl rfl (hm.row 1 rfl) (Gt _ _ _ _ _ _ _)) rfl ?_;rw [HN.out];exact ⟨by decide,rfl,hm.dropRow.dropRow⟩
  ·obtain rfl:l.length=k:=by omega
   rw [List.drop_length,BO] at hR;have HRR:=h_ hR;obtain ⟨a,V,M,m,p,s,q,hv⟩:=MT.qK t;rw [hv] at hm;clear hR hv
   go_wp2_with (first
    |(with_reducible refine gBu (t:=88) ?_;(refine A8 rfl (Ir rfl) ?_))
    |(with_reducible refine ws 88 0 hm ?_;clear hm;intro w hm))
   refine b_r (Ae rfl rfl (hm.row 0 rfl) (Gt _ _ _ _ _ _ _)) rfl ?_;rw [HRR.out];exact ⟨by decide,rfl,hm.dropRow⟩
end Go.Proofs.YtkpbhdhkdonghaaGreat
