/-
  Part 25 of the proof.
-/
import Derived.Test.YtkpbhdhkdonghaaGreatA23
import Derived.Test.YtkpbhdhkdonghaaGreatA24
set_option linter.all false
set_option maxHeartbeats 1000000
set_option maxRecDepth 100000
namespace Go.Proofs.YtkpbhdhkdonghaaGreat
open Go Go.RowKit
structure Wk where
 col:I_
 ix:Nat
 d:Nat
 r:Nat
 k:Nat
 st:Int
def Wk.cost (w:Wk):Int:=if w.d=0 then 1 else 1+((Iw w.ix w.r % w.d:Nat):Int)
def Wk.byte (w:Wk):Int:=gi w.col (Iw w.ix w.r)
def Wk.next (w:Wk):Wk:=⟨w.col,w.ix,w.d,(aft w.col (Iw w.ix w.r)).toNat,w.k+1,w.st+w.cost⟩
def A7g (col:I_) (ix d:Nat):Int:=if d=0 then wct col ix col.length 0 else wst col ix d col.length 0
def wtx (col:I_) (ix:Nat):Nat->Nat->I_
|0,_=>[]
|k+1,r=>if r=ix then [] else gi col (Iw ix r)::wtx col ix k (aft col (Iw ix r)).toNat
def A5p (a:Int) (t:I_):Int:=t.foldl (fun a b=>crc a [[b]]) a
structure Dk where
 c:Cf
 hd:Option (Int × Int)
 out:I_
 m:Int
 p:Int
 q:Int
 bk:Option Wk
 st:Int
 told:Int
 all:Int
 e:Int
def Dk.d (s:Dk):Nat:=match s.hd with
|some (_,md)=>(Pol.dist md).toNat
|none=>0
def Dk.ends (s:Dk) (c2:Cf):Dk :=
 if A30 s.out s.p.toNat s.out.length 0=true then
  (if A5p 0 (wtx s.out s.p.toNat s.out.length 0)=s.q then { s with c:=c2,bk:=some ⟨s.out,s.p.toNat,s.d,0,0,A7g s.out s.p.toNat s.d+A7g s.out s.p.toNat s.d⟩ }
  else { s with c:=c2,e:=250,st:=s.st+(A7g s.out s.p.toNat s.d+A7g s.out s.p.toNat s.d) })
 else { s with c:=c2,e:=170,st:=s.st+A7g s.out s.p.toNat s.d }
def Dk.act (bud:Int) (s:Dk) (c2:Cf):Evt->Dk
|.head n=>if (Pol.pk bud n 2).2=0 then { s with c:=c2,hd:=some (n,(Pol.pk bud n 2).1) } else { s with c:=c2,e:=(Pol.pk bud n 2).2 }
|.block m p q=>{ s with c:=c2,m:=m,p:=p,q:=q,out:=[] }
|.bytes t=>{ s with c:=c2,out:=s.out++t }
|.U5 _ _ _=>s.ends c2
|.tail q=>if q=s.all then { s with c:=c2 } else { s with c:=c2,e:=260 }
|.bad e=>{ s with c:=c2,e:=e }
|_=>{ s with c:=c2 }
def Dk.tell (s:Dk) (w:Wk):Dk :=
 if ((w.k+1:Nat):Int)=s.m then { s with bk:=none,told:=s.told+1,all:=crc s.all [[w.byte]],st:=s.st+w.next.st }
 else { s with bk:=some w.next,told:=s.told+1,all:=crc s.all [[w.byte]] }
inductive Rsl where
|byte (b:Int)
|need
|fin
|bad (e:Int)
def Rsl.val:Rsl->Value
|.byte b=>.tuple #[.int .u8 b,.int .u8 1,.int .i64 0]
|.need=>.tuple #[.int .u8 0,.int .u8 2,.int .i64 0]
|.fin=>.tuple #[.int .u8 0,.int .u8 3,.int .i64 0]
|.bad e=>.tuple #[.int .u8 0,.int .u8 4,.int .i64 e]
def Evt.act:Evt->Bool
|.fin=>false
|.need=>false
|_=>true
inductive DN (bud:Int) (en:Bool):Dk->Rsl->Dk->Prop where
|err {s:Dk} (h:s.e ≠ 0):DN bud en s (.bad s.e) s
|byte {s:Dk} {w:Wk} (h:s.e=0) (hb:s.bk=some w):DN bud en s (.byte w.byte) (s.tell w)
|need {s:Dk} {c2:Cf} (h:s.e=0) (hb:s.bk=none) (hN:NxE en s.c .need c2):DN bud en s .need { s with c:=c2 }
|fin {s:Dk} {c2:Cf} (h:s.e=0) (hb:s.bk=none) (hN:NxE en s.c .fin c2):DN bud en s .fin { s with c:=c2 }
|act {s s2:Dk} {c2:Cf} {ev:Evt} {r:Rsl} (h:s.e=0) (hb:s.bk=none) (hN:NxE en s.c ev c2) (ha:ev.act=true) (hz:∀ e,ev=.bad e->e ≠ 0) (hd:DN bud en (s.act bud c2 ev) r s2):DN bud en s r s2
open Go Tryz Go.RowKit
theorem Own.fb {w0 w:World} {f p q r:Nat × A_} {rs:Rws} {ss:List Sl} (h:Own w0 w (f::p::q::r::rs) ss):Own w0 w (p::q::r::f::rs) ss:=h.perm ((List.perm_append_comm (l₁:=[p,q,r]) (l₂:=[f])).append_right rs)
theorem Own.bf {w0 w:World} {f p q r:Nat × A_} {rs:Rws} {ss:List Sl} (h:Own w0 w (p::q::r::f::rs) ss):Own w0 w (f::p::q::r::rs) ss:=h.perm ((List.perm_append_comm (l₁:=[f]) (l₂:=[p,q,r])).append_right rs)
structure WyR (w:Wk) (ga n mk:Nat) (live:Int) (l:I_) (cs:A_) (t fv fn fr fs ft:Nat):Prop where
 kd:WKd t fv fn fr fs ft
 col:Jp l 0 w.col.length=w.col
 r:w.r<=w.col.length
 k:w.k<=w.col.length
 n2:w.col.length<=65536
 i1:1<=w.ix
 i2:w.ix<=w.col.length
 byt:Bytes w.col
 row:(t=54/\w.d=0/\cs=A7m ga 0 w.col.length n mk w.ix w.r w.k w.st/\A3z l live 0 w.col.length n mk w.ix/\∀ r,r<=w.col.length->w32 l (n+4 * r) 4=rowsOf (Jp l 0 w.col.length) w.ix r) \/
  (t=57/\0 < w.d/\w.d<=65536/\cs=A33 ga l 0 w.col.length n mk w.d w.ix w.r w.k w.st/\A47 l live 0 w.col.length n mk w.d w.ix)
def rco (col:I_) (ix d k r:Nat):Int:=if d=0 then wct col ix k r else wst col ix d k r
theorem A3W (col:I_) (ix d r:Nat):rco col ix d 0 r=0:=by unfold rco;split<;>rfl
theorem A3r {col:I_} {ix d k r:Nat} (h:r ≠ ix):rco col ix d (k+1) r=(if d=0 then 1 else 1+((Iw ix r % d:Nat):Int))+rco col ix d k (aft col (Iw ix r)).toNat:=by
 unfold rco;split
 ·rw [wct,if_neg h]
 ·rw [wst,if_neg h]
theorem A39 {col:I_} {ix d:Nat} (hd:d<=65536):∀ k r,0<=rco col ix d k r/\rco col ix d k r<=65537 * k
|0,r=>by rw [A3W];omega
|k+1,r=>by
  by_cases h:r=ix
  ·have e:rco col ix d (k+1) r=0:=by
    unfold rco;split
    ·rw [wct,if_pos h]
    ·rw [wst,if_pos h]
   rw [e];omega
  ·rw [A3r h];have:=A39 (col:=col) (ix:=ix) hd k (aft col (Iw ix r)).toNat
   by_cases h0:d=0
   ·rw [if_pos h0];omega
   ·rw [if_neg h0];have:=Nat.mod_lt (Iw ix r) (Nat.pos_of_ne_zero h0);omega
theorem A7h (col:I_) (ix d:Nat):A7g col ix d=rco col ix d col.length 0:=rfl
section
variable {w:Wk} {gw ga gx n mk:Nat} {live peak:Int} {l:I_} {cs:A_} {t fv fn fr fs ft:Nat} {w0:World} {rs:Rws} {ss:List Sl}
theorem WyR.next (h:WyR w ga n mk live l cs t fv fn fr fs ft) (hr:w.r ≠ w.ix) (hk:w.k < w.col.length) (s0:0<=w.st) (s1:w.st<=100000000000000):∃ cs2,WyR w.next ga n mk live l cs2 t fv fn fr fs ft/\∀ W f,Own w0 W (f::(gw,cs)::(ga,AR (.slice (some ⟨gx,0,none⟩) l.length l.length) live peak)::(gx,B l)::rs) ss->Calls prog fn #[.pointer (some ⟨gw,0,none⟩)] W fun x w'=>(x=.returned (.tuple #[.int .u8 w.byte,.bool true]))/\Own w0 w' (f::(gw,cs2)::(ga,AR (.slice (some ⟨gx,0,none⟩) l.length l.length) live peak)::(gx,B l)::rs) ss:=by
 have hpl:=A0z h.i1 h.i2 h.r hr;obtain ⟨e1,e2⟩:=A4u h.byt (Iw w.ix w.r) hpl;obtain ⟨kd,hc,r2,k2,n2,i1,i2,hb,hrow⟩:=h;rcases hrow with ⟨ht,hd,rfl,ho,hw⟩|⟨ht,hd,hd2,rfl,ho⟩
 ·refine ⟨A7m ga 0 w.col.length n mk w.ix w.next.r w.next.k w.next.st,⟨kd,hc,e2,hk,n2,i1,i2,hb,.inl ⟨ht,hd,rfl,ho,hw⟩⟩,fun W f hm=>?_⟩;have hfn:fn=30:=by rcases kd with ⟨_,_,h,_⟩|⟨h,_⟩<;>omega
  subst hfn;refine (A5F gw ga gx 0 w.col.length n mk w.ix l w.r w.k w.st live peak w0 W (f::rs) ss hm.fb ho hw s0 s1 r2 hk hr).mono ?_;rintro x w' ⟨rfl,hm⟩;refine ⟨by rw [hc];rfl,?_⟩;have hm:=hm.bf;rw [hc,<- e1] at hm;have es:w.next.st=w.st+1:=by simp [Wk.next,Wk.cost,hd]
  exact xem
 ·refine ⟨A33 ga l 0 w.col.length n mk w.d w.ix w.next.r w.next.k w.next.st,⟨kd,hc,e2,hk,n2,i1,i2,hb,.inr ⟨ht,hd,hd2,rfl,ho⟩⟩,fun W f hm=>?_⟩;have hfn:fn=31:=by rcases kd with ⟨h,_⟩|⟨_,_,h,_⟩<;>omega
  subst hfn;refine (A5I gw ga gx 0 w.col.length n mk w.d w.ix l w.r w.k w.st live peak w0 W (f::rs) ss hm.fb ho s0 s1 r2 hk hr).mono ?_;rintro x w' ⟨rfl,hm⟩;refine ⟨by rw [hc];rfl,?_⟩;have hm:=hm.bf;rw [show aft (Jp l 0 w.col.length) (Iw w.ix w.r)=((w.next.r:Nat):Int) by rw [hc];exact e1.symm] at hm;have es:w.next.st=w.st+(1+((Iw w.ix w.r % w.d:Nat):Int)):=by simp [Wk.next,Wk.cost,Nat.ne_of_gt hd]
  exact xem
theorem WyR.done (h:WyR w ga n mk live l cs t fv fn fr fs ft) (hk:w.k=w.col.length) (s0:0<=w.st) (s1:w.st<=100000000000000):∀ W f,Own w0 W (f::(gw,cs)::(ga,AR (.slice (some ⟨gx,0,none⟩) l.length l.length) live peak)::(gx,B l)::rs) ss->Calls prog fn #[.pointer (some ⟨gw,0,none⟩)] W fun x w'=>(x=.returned (.tuple #[.int .u8 0,.bool false]))/\Own w0 w' (f::(gw,cs)::(ga,AR (.slice (some ⟨gx,0,none⟩) l.length l.length) live peak)::(gx,B l)::rs) ss:=fun W f hm=>by
 obtain ⟨kd,hc,r2,k2,n2,i1,i2,hb,hrow⟩:=h;rcases hrow with ⟨ht,hd,rfl,ho,hw⟩|⟨ht,hd,hd2,rfl,ho⟩
 ·have hfn:fn=30:=by rcases kd with ⟨_,_,h,_⟩|⟨h,_⟩<;>omega
  subst hfn;refine (A52 gw ga gx 0 w.col.length n mk w.ix l w.r w.k w.st live peak w0 W (f::rs) ss hm.fb ho hw s0 s1 (by omega)).mono ?_;rintro x w' ⟨rfl,hm⟩;exact ⟨rfl,hm.bf⟩
 ·have hfn:fn=31:=by rcases kd with ⟨h,_⟩|⟨_,_,h,_⟩<;>omega
  subst hfn;refine (A55 gw ga gx 0 w.col.length n mk w.d w.ix l w.r w.k w.st live peak w0 W (f::rs) ss hm.fb ho s0 s1 (by omega)).mono ?_;rintro x w' ⟨rfl,hm⟩;exact ⟨rfl,hm.bf⟩
theorem WyR.valid (h:WyR w ga n mk live l cs t fv fn fr fs ft) (h0:w.st=0):∃ cs2,WyR { w with st:=A7g w.col w.ix w.d } ga n mk live l cs2 t fv fn fr fs ft/\∀ W f,Own w0 W (f::(gw,cs)::(ga,AR (.slice (some ⟨gx,0,none⟩) l.length l.length) live peak)::(gx,B l)::rs) ss->Calls prog fv #[.pointer (some ⟨gw,0,none⟩)] W fun x w'=>(x=.returned (.bool (A30 w.col w.ix w.col.length 0)))/\Own w0 w' (f::(gw,cs2)::(ga,AR (.slice (some ⟨gx,0,none⟩) l.length l.length) live peak)::(gx,B l)::rs) ss:=by
 obtain ⟨kd,hc,r2,k2,n2,i1,i2,hb,hrow⟩:=h;rcases hrow with ⟨ht,hd,rfl,ho,hw⟩|⟨ht,hd,hd2,rfl,ho⟩
 ·refine ⟨A7m ga 0 w.col.length n mk w.ix w.r w.k (A7g w.col w.ix w.d),⟨kd,hc,r2,k2,n2,i1,i2,hb,.inl ⟨ht,hd,rfl,ho,hw⟩⟩,fun W f hm=>?_⟩;have hfn:fv=28:=by rcases kd with ⟨_,h,_⟩|⟨h,_⟩<;>omega
  subst hfn;refine (A4x gw ga gx 0 w.col.length n mk w.ix l w.r w.k w.st live peak w0 W (f::rs) ss hm.fb ho hw (by omega) (by omega)).mono ?_;rintro x w' ⟨rfl,hm⟩;rw [hc] at hm ⊢;refine ⟨rfl,?_⟩;have es:w.st+wct w.col w.ix w.col.length 0=A7g w.col w.ix w.d:=by rw [h0,A7g,if_pos hd];omega
  rw [es] at hm;exact hm.bf
 ·refine ⟨A33 ga l 0 w.col.length n mk w.d w.ix w.r w.k (A7g w.col w.ix w.d),⟨kd,hc,r2,k2,n2,i1,i2,hb,.inr ⟨ht,hd,hd2,rfl,ho⟩⟩,fun W f hm=>?_⟩;have hfn:fv=29:=by rcases kd with ⟨h,_⟩|⟨_,h,_⟩<;>omega
  subst hfn;refine (A4A gw ga gx 0 w.col.length n mk w.d w.ix l w.r w.k w.st live peak w0 W (f::rs) ss hm.fb ho (by omega) (by omega)).mono ?_;rintro x w' ⟨rfl,hm⟩;have es:w.st+wst (Jp l 0 w.col.length) w.ix w.d w.col.length 0=A7g w.col w.ix w.d:=by rw [hc,h0,A7g,if_neg (by omega)];omega
  rw [es] at hm;exact ⟨by rw [hc],hm.bf⟩
theorem WyR.told (h:WyR w ga n mk live l cs t fv fn fr fs ft):∀ W f R,Own w0 W (f::(gw,cs)::R) ss->Calls prog ft #[.pointer (some ⟨gw,0,none⟩)] W fun x w'=>(x=.returned (.int .i64 w.k))/\w'=W:=fun W f R hm=>by
 obtain ⟨kd,hc,r2,k2,n2,i1,i2,hb,hrow⟩:=h;rcases hrow with ⟨ht,hd,rfl,ho,hw⟩|⟨ht,hd,hd2,rfl,ho⟩
 ·have hfn:ft=313:=by rcases kd with ⟨_,_,_,_,_,h⟩|⟨h,_⟩<;>omega
  subst hfn;exact A51 gw _ _ _ _ _ _ _ _ _ w0 W R ss hm.dropRow
 ·have hfn:ft=316:=by rcases kd with ⟨h,_⟩|⟨_,_,_,_,_,h⟩<;>omega
  subst hfn;exact A54 gw _ _ _ _ _ _ _ _ _ _ _ w0 W R ss hm.dropRow
theorem WyR.steps (h:WyR w ga n mk live l cs t fv fn fr fs ft):∀ W f R,Own w0 W (f::(gw,cs)::R) ss->Calls prog fs #[.pointer (some ⟨gw,0,none⟩)] W fun x w'=>(x=.returned (.int .i64 w.st))/\w'=W:=fun W f R hm=>by
 obtain ⟨kd,hc,r2,k2,n2,i1,i2,hb,hrow⟩:=h;rcases hrow with ⟨ht,hd,rfl,ho,hw⟩|⟨ht,hd,hd2,rfl,ho⟩
 ·have hfn:fs=312:=by rcases kd with ⟨_,_,_,_,h,_⟩|⟨h,_⟩<;>omega
  subst hfn;exact A4y gw _ _ _ _ _ _ _ _ _ w0 W R ss hm.dropRow
 ·have hfn:fs=315:=by rcases kd with ⟨h,_⟩|⟨_,_,_,_,h,_⟩<;>omega
  subst hfn;exact A4B gw _ _ _ _ _ _ _ _ _ _ _ w0 W R ss hm.dropRow
theorem WyR.reset (h:WyR w ga n mk live l cs t fv fn fr fs ft):∃ cs2,WyR { w with r:=0,k:=0 } ga n mk live l cs2 t fv fn fr fs ft/\∀ W f R,Own w0 W (f::(gw,cs)::R) ss->Calls prog fr #[.pointer (some ⟨gw,0,none⟩)] W fun x w'=>(x=.returned (.tuple #[]))/\Own w0 w' (f::(gw,cs2)::R) ss:=by
 obtain ⟨kd,hc,r2,k2,n2,i1,i2,hb,hrow⟩:=h;have sw:∀ {W:World} {a b:Nat × A_} {R:Rws},Own w0 W (a::b::R) ss->Own w0 W (b::a::R) ss:=fun h=>h.perm (List.Perm.swap _ _ _);rcases hrow with ⟨ht,hd,rfl,ho,hw⟩|⟨ht,hd,hd2,rfl,ho⟩
 ·refine ⟨A7m ga 0 w.col.length n mk w.ix 0 0 w.st,⟨kd,hc,Nat.zero_le _,Nat.zero_le _,n2,i1,i2,hb,.inl ⟨ht,hd,rfl,ho,hw⟩⟩,fun W f R hm=>?_⟩;have hfn:fr=311:=by rcases kd with ⟨_,_,_,h,_⟩|⟨h,_⟩<;>omega
  subst hfn;refine (A4z gw _ _ _ _ _ _ _ _ _ w0 W (f::R) ss (sw hm)).mono ?_;rintro x w' ⟨rfl,hm⟩;exact ⟨rfl,sw hm⟩
 ·refine ⟨A33 ga l 0 w.col.length n mk w.d w.ix 0 0 w.st,⟨kd,hc,Nat.zero_le _,Nat.zero_le _,n2,i1,i2,hb,.inr ⟨ht,hd,hd2,rfl,ho⟩⟩,fun W f R hm=>?_⟩;have hfn:fr=314:=by rcases kd with ⟨h,_⟩|⟨_,_,_,h,_⟩<;>omega
  subst hfn;refine (A4C gw _ _ _ _ _ _ _ _ _ _ _ w0 W (f::R) ss (sw hm)).mono ?_;rintro x w' ⟨rfl,hm⟩;exact ⟨rfl,sw hm⟩
end
section
variable {col:I_} {ix d r k:Nat} {s:Int} {gw ga gx n mk:Nat} {live peak:Int} {l:I_} {cs:A_} {t fv fn fr fs ft:Nat} {w0:World} {rs:Rws} {ss:List Sl}
theorem A5q (h:WyR ⟨col,ix,d,r,k,s⟩ ga n mk live l cs t fv fn fr fs ft) (hr:r ≠ ix) (hk:k < col.length) (s0:0<=s) (s1:s<=100000000000000):∃ cs2,WyR ⟨col,ix,d,(aft col (Iw ix r)).toNat,k+1,s+(if d=0 then 1 else 1+((Iw ix r % d:Nat):Int))⟩ ga n mk live l cs2 t fv fn fr fs ft/\∀ W f,Own w0 W (f::(gw,cs)::(ga,AR (.slice (some ⟨gx,0,none⟩) l.length l.length) live peak)::(gx,B l)::rs) ss->Calls prog fn #[.pointer (some ⟨gw,0,none⟩)] W fun x w'=>(x=.returned (.tuple #[.int .u8 (gi col (Iw ix r)),.bool true]))/\Own w0 w' (f::(gw,cs2)::(ga,AR (.slice (some ⟨gx,0,none⟩) l.length l.length) live peak)::(gx,B l)::rs) ss:=h.next hr hk s0 s1
theorem A3S (h:WyR ⟨col,ix,d,0,0,0⟩ ga n mk live l cs t fv fn fr fs ft) {b:Bool} (hb:A30 col ix col.length 0=b):∃ cs2,WyR ⟨col,ix,d,0,0,A7g col ix d⟩ ga n mk live l cs2 t fv fn fr fs ft/\∀ W f,Own w0 W (f::(gw,cs)::(ga,AR (.slice (some ⟨gx,0,none⟩) l.length l.length) live peak)::(gx,B l)::rs) ss->Calls prog fv #[.pointer (some ⟨gw,0,none⟩)] W fun x w'=>(x=.returned (.bool b))/\Own w0 w' (f::(gw,cs2)::(ga,AR (.slice (some ⟨gx,0,none⟩) l.length l.length) live peak)::(gx,B l)::rs) ss:=by
 subst hb;exact h.valid rfl
theorem A6e (h:WyR ⟨col,ix,d,r,k,s⟩ ga n mk live l cs t fv fn fr fs ft):∃ cs2,WyR ⟨col,ix,d,0,0,s⟩ ga n mk live l cs2 t fv fn fr fs ft/\∀ W f R,Own w0 W (f::(gw,cs)::R) ss->Calls prog fr #[.pointer (some ⟨gw,0,none⟩)] W fun x w'=>(x=.returned (.tuple #[]))/\Own w0 w' (f::(gw,cs2)::R) ss:=h.reset
end
theorem A3D {o:Oper} {a:Act} {w:World} {x y:Operand} (ho:o.op=.build 50 #[(0,x),(1,y)]) {b n:Int} (hx:a.eval x=.int .i64 b) (hy:a.eval y=.int .i64 n):(execOp a.eval o).run prog w=.ok (.value (.agg (SP b n))) w :=
 Dq ho (by simp only [l_y,List.map_cons,List.map_nil,hx,hy];kernel_rfl)
theorem Own.mv5 {w0 w:World} {a b c d e:Nat × A_} {rs:Rws} {ss:List Sl} (h:Own w0 w (a::b::c::d::e::rs) ss):Own w0 w (e::a::b::c::rs) ss :=
 (h.perm ((List.perm_append_comm (l₁:=[d,e]) (l₂:=[a,b,c])).append_right rs)).dropRow
theorem A6w (gd ga gx gs sp spc N n mk px:Nat) (sc:A_) (l:I_) (live peak bud md:Int) (pr pp:Value) (q came:Int) (bv:Value) (st told all e:Int) (w0 w:World) (rs:Rws) (ss:List Sl) (hm:Own w0 w ((gd,DRw bud md (.pointer (some ⟨ga,0,none⟩)) pr pp (.slice (some ⟨gs,sp,none⟩) 2 spc) N px q came bv st told all e)::(ga,AR (.slice (some ⟨gx,0,none⟩) l.length l.length) live peak)::(gx,B l)::(gs,sc)::rs) ss) (h0:sc[sp]?=some (.int .i64 0)) (h2:sc[sp+2]?=some (.int .i64 n)) (h3:sc[sp+3]?=some (.int .i64 mk)) (CD:Hid (∀ W,Calls prog 96 #[.int .u8 md] W fun x w'=>x=.returned (.tuple #[.int .i64 0,.bool false])/\Below W.heap.size W w')) (h:A3z l live 0 N n mk px):Calls prog 114 #[.pointer (some ⟨gd,0,none⟩)] w fun x w'=>∃ gf l2,x=.returned (.tuple #[.iface 54 (.pointer (some ⟨gf,0,none⟩)),.int .i64 0])/\l2.length=l.length/\Jp l2 0 N=Jp l 0 N/\A3z l2 live 0 N n mk px/\(∀ r,r<=N->w32 l2 (n+4 * r) 4=rowsOf (Jp l2 0 N) px r)/\Own w0 w' ((gd,DRw bud md (.pointer (some ⟨ga,0,none⟩)) pr pp (.slice (some ⟨gs,sp,none⟩) 2 spc) N px q came bv st told all e)::(gf,A7m ga 0 N n mk px 0 0 0)::(ga,AR (.slice (some ⟨gx,0,none⟩) l2.length l2.length) live peak)::(gx,B l2)::(gs,sc)::rs) ss:=by
 have HS0:Hid (sc[sp+0 * 2]?=some (.int .i64 0)):=h_ (by simpa using h0);have HS2:Hid (sc[sp+1 * 2]?=some (.int .i64 n)):=h_ (by simpa using h2);have HS3:Hid (sc[sp+1 * 2+1]?=some (.int .i64 mk)):=h_ (by simpa using h3);clear h0 h2 h3;obtain ⟨i1,hE⟩:=A5v;have HE:=h_ hE;clear hE;have HF:=h_ h;clear h;go_enter func114,ntmps114
 go_upto_region 1 with fail
 refine rO hm 14 (.rds [(0,false),(1,false),(2,false),(3,true),(4,false),(5,false),(6,true),(7,false),(8,false),(9,false),(10,false),(11,true),(12,false)] (.one 13 (.brk 14 15 .done))) ?_;clear hm;intro w hm;simp only [KT.rds]
 iterate 3 refine kq ?_
 refine km (fun W hm=>ld 0 hm rfl rfl rfl (ot rfl) rfl) ?_
 (refine K_p rfl rfl (fun W=>ix (k:=0) rfl HE.out rfl rfl rfl (by omega)) ?_)
 try simp only [Act.put,s3]
 refine kq ?_;refine km (fun W hm=>ld 3 hm rfl rfl rfl (ot rfl) HS0.out) ?_
 iterate 4 refine kq ?_
 refine km (fun W hm=>ld 0 hm rfl rfl rfl (ot rfl) rfl) ?_
 (refine K_p rfl rfl (fun W=>A3D rfl rfl rfl) ?_)
 try simp only [Act.put,s3]
 (refine Bo rfl rfl (Dl hm rfl A70 ?_))
 clear hm;intro w g hm;refine ⟨fun W=>Own _ W _ _,fun _ h=>h.dropRow,hm,?_⟩
 try simp only [Act.put,s3]
 ((refine Em rfl rfl (Aw 0 hm rfl rfl (Ac rfl) rfl (ag rfl) rfl (Dp rfl) ?_)))
 clear hm;intro w hm
 try simp only [puts,s2,List.set,List.eraseIdx,s3] at hm
 refine ⟨fun W=>Own _ W _ _,hm,?_⟩
 try simp only [Act.put,s3]
 refine Ba ?_;go_simp
 go_upto_region 4 with (first
  |(go_at_call 96;have _t:=hm;refine (CD.out _).mono ?_;rintro e1 w1 ⟨rfl,hb⟩;replace hm:=hm.call hb;clear _t hb)
  |(with_reducible refine wl 5 1 hm ?_))
 refine rO hm 16 (.rds [(0,false),(1,false),(2,false),(3,true),(4,true),(5,false),(6,false),(7,false),(8,false),(9,true),(10,false),(11,false),(12,false),(13,true),(14,false),(15,true)] (.brk 16 22 (.rds [(17,false),(18,false),(19,false),(20,false),(21,false)] .done))) ?_;clear hm;intro w hm;simp only [KT.rds]
 iterate 3 refine kq ?_
 refine km (fun W hm=>ld 1 hm rfl rfl rfl (ot rfl) rfl) ?_;refine km (fun W hm=>ld2 0 hm rfl rfl rfl (ag rfl) rfl rfl) ?_
 iterate 4 refine kq ?_
 refine km (fun W hm=>ld 1 hm rfl rfl rfl (ot rfl) rfl) ?_
 iterate 3 refine kq ?_
 refine km (fun W hm=>ld 1 hm rfl rfl rfl (ot rfl) rfl) ?_
 (refine K_p rfl rfl (fun W=>ix (k:=1) rfl HE.out rfl rfl rfl (by omega)) ?_)
 try simp only [Act.put,s3]
 refine km (fun W hm=>ld2 4 hm rfl rfl rfl (ag rfl) HS2.out HS3.out) ?_;refine PO rfl rfl (fun K hK=>?_);go_simp;refine (A5G ga gx 0 N n mk px l live peak _ _ _ _ hm.A4j HF.out).mono ?_;rintro e w1 ⟨gf,l2,rfl,hl2,hc2,hg2,hF2,hW2,hm⟩;refine hK _ _ ⟨fun W=>Own _ W _ _,hm,?_⟩;clear hK K
 iterate 5 refine kq ?_
 refine Ba ?_;go_simp;go_wp2
 go_ret2
 exact ⟨gf,l2,rfl,hl2,hc2,hF2,hW2,hm.mv5⟩
theorem A6x (gd ga gx gs sp spc N n mk px:Nat) (sc:A_) (l:I_) (live peak bud md:Int) (pr pp:Value) (q came:Int) (bv:Value) (st told all e:Int) (w0 w:World) (rs:Rws) (ss:List Sl) (hm:Own w0 w ((gd,DRw bud md (.pointer (some ⟨ga,0,none⟩)) pr pp (.slice (some ⟨gs,sp,none⟩) 2 spc) N px q came bv st told all e)::(ga,AR (.slice (some ⟨gx,0,none⟩) l.length l.length) live peak)::(gx,B l)::(gs,sc)::rs) ss) (h0:sc[sp]?=some (.int .i64 0)) (h2:sc[sp+2]?=some (.int .i64 n)) (h3:sc[sp+3]?=some (.int .i64 mk)) (d:Nat) (CD:Hid (∀ W,Calls prog 96 #[.int .u8 md] W fun x w'=>x=.returned (.tuple #[.int .i64 d,.bool true])/\Below W.heap.size W w')) (hb:Bytes l) (h:A68 live 0 N n mk d) (hl1:live<=l.length) (hl2:l.length<=1048576) (i1x:1<=px) (i2x:px<=N):Calls prog 114 #[.pointer (some ⟨gd,0,none⟩)] w fun x w'=>∃ gf l2,x=.returned (.tuple #[.iface 57 (.pointer (some ⟨gf,0,none⟩)),.int .i64 0])/\l2.length=l.length/\Jp l2 0 N=Jp l 0 N/\A47 l2 live 0 N n mk d px/\Own w0 w' ((gd,DRw bud md (.pointer (some ⟨ga,0,none⟩)) pr pp (.slice (some ⟨gs,sp,none⟩) 2 spc) N px q came bv st told all e)::(gf,A33 ga l2 0 N n mk d px 0 0 0)::(ga,AR (.slice (some ⟨gx,0,none⟩) l2.length l2.length) live peak)::(gx,B l2)::(gs,sc)::rs) ss:=by
 have HS0:Hid (sc[sp+0 * 2]?=some (.int .i64 0)):=h_ (by simpa using h0);have HS2:Hid (sc[sp+1 * 2]?=some (.int .i64 n)):=h_ (by simpa using h2);have HS3:Hid (sc[sp+1 * 2+1]?=some (.int .i64 mk)):=h_ (by simpa using h3);clear h0 h2 h3;obtain ⟨i1,hE⟩:=A5v;have HE:=h_ hE;clear hE;have HK:=h_ h;have HB:=h_ hb;clear h hb;go_enter func114,ntmps114
 go_upto_region 1 with fail
 refine rO hm 14 (.rds [(0,false),(1,false),(2,false),(3,true),(4,false),(5,false),(6,true),(7,false),(8,false),(9,false),(10,false),(11,true),(12,false)] (.one 13 (.brk 14 15 .done))) ?_;clear hm;intro w hm;simp only [KT.rds]
 iterate 3 refine kq ?_
 refine km (fun W hm=>ld 0 hm rfl rfl rfl (ot rfl) rfl) ?_
 (refine K_p rfl rfl (fun W=>ix (k:=0) rfl HE.out rfl rfl rfl (by omega)) ?_)
 try simp only [Act.put,s3]
 refine kq ?_;refine km (fun W hm=>ld 3 hm rfl rfl rfl (ot rfl) HS0.out) ?_
 iterate 4 refine kq ?_
 refine km (fun W hm=>ld 0 hm rfl rfl rfl (ot rfl) rfl) ?_
 (refine K_p rfl rfl (fun W=>A3D rfl rfl rfl) ?_)
 try simp only [Act.put,s3]
 (refine Bo rfl rfl (Dl hm rfl A70 ?_))
 clear hm;intro w g hm;refine ⟨fun W=>Own _ W _ _,fun _ h=>h.dropRow,hm,?_⟩
 try simp only [Act.put,s3]
 ((refine Em rfl rfl (Aw 0 hm rfl rfl (Ac rfl) rfl (ag rfl) rfl (Dp rfl) ?_)))
 clear hm;intro w hm
 try simp only [puts,s2,List.set,List.eraseIdx,s3] at hm
 refine ⟨fun W=>Own _ W _ _,hm,?_⟩
 try simp only [Act.put,s3]
 refine Ba ?_;go_simp
 go_upto_region 5 with (first
  |(go_at_call 96;have _t:=hm;refine (CD.out _).mono ?_;rintro e1 w1 ⟨rfl,hb⟩;replace hm:=hm.call hb;clear _t hb)
  |(with_reducible refine wl 5 1 hm ?_))
 refine rO hm 17 (.rds [(0,false),(1,false),(2,false),(3,true),(4,true),(5,false),(6,false),(7,false),(8,false),(9,true),(10,false),(11,false),(12,false),(13,true),(14,false),(15,true),(16,false)] (.brk 17 23 (.rds [(18,false),(19,false),(20,false),(21,false),(22,false)] .done))) ?_;clear hm;intro w hm;simp only [KT.rds]
 iterate 3 refine kq ?_
 refine km (fun W hm=>ld 1 hm rfl rfl rfl (ot rfl) rfl) ?_;refine km (fun W hm=>ld2 0 hm rfl rfl rfl (ag rfl) rfl rfl) ?_
 iterate 4 refine kq ?_
 refine km (fun W hm=>ld 1 hm rfl rfl rfl (ot rfl) rfl) ?_
 iterate 3 refine kq ?_
 refine km (fun W hm=>ld 1 hm rfl rfl rfl (ot rfl) rfl) ?_
 (refine K_p rfl rfl (fun W=>ix (k:=1) rfl HE.out rfl rfl rfl (by omega)) ?_)
 try simp only [Act.put,s3]
 refine km (fun W hm=>ld2 4 hm rfl rfl rfl (ag rfl) HS2.out HS3.out) ?_;refine kq ?_;refine PO rfl rfl (fun K hK=>?_);go_simp;refine (A5J ga gx 0 N n mk d px l live peak _ _ _ _ hm.A4j HB.out HK.out hl1 hl2 i1x i2x).mono ?_;rintro e w1 ⟨gf,l2,rfl,hl3,hc2,hg2,hF2,hm⟩;refine hK _ _ ⟨fun W=>Own _ W _ _,hm,?_⟩;clear hK K
 iterate 5 refine kq ?_
 refine Ba ?_;go_simp;go_wp2
 go_ret2
 exact ⟨gf,l2,rfl,hl3,hc2,hF2,hm.mv5⟩
theorem A5k (gd ga gx gs sp spc N n mk px:Nat) (sc:A_) (l:I_) (live peak bud md:Int) (pr pp:Value) (q came:Int) (bv:Value) (st told all e:Int) (w0 w:World) (rs:Rws) (ss:List Sl) (hm:Own w0 w ((gd,DRw bud md (.pointer (some ⟨ga,0,none⟩)) pr pp (.slice (some ⟨gs,sp,none⟩) 2 spc) N px q came bv st told all e)::(ga,AR (.slice (some ⟨gx,0,none⟩) l.length l.length) live peak)::(gx,B l)::(gs,sc)::rs) ss) (h0:sc[sp]?=some (.int .i64 0)) (h2:sc[sp+2]?=some (.int .i64 n)) (h3:sc[sp+3]?=some (.int .i64 mk)) (d:Nat) (HMD:(d=0/\md=3/\4 * (N+1)<=mk)\/(0 < d/\(md=1\/md=2)/\(d:Int)=Pol.dist md/\1024 * (N / d)<=mk)) (n1:1<=N) (hN:N<=n) (hn:n<=65536) (hb:Bytes l) (hl1:live<=l.length) (hl2:l.length<=1048576) (hf:(n:Int)+mk<=live) (i1x:1<=px) (i2x:px<=N) (t fv fn fr fs ft:Nat) (hk:WKd t fv fn fr fs ft) (ht:t=54 ↔ d=0):Calls prog 114 #[.pointer (some ⟨gd,0,none⟩)] w fun x w'=>∃ gf l2 cs,x=.returned (.tuple #[.iface t (.pointer (some ⟨gf,0,none⟩)),.int .i64 0])/\l2.length=l.length/\Bytes l2/\WyR ⟨Jp l 0 N,px,d,0,0,0⟩ ga n mk live l2 cs t fv fn fr fs ft/\Own w0 w' ((gd,DRw bud md (.pointer (some ⟨ga,0,none⟩)) pr pp (.slice (some ⟨gs,sp,none⟩) 2 spc) N px q came bv st told all e)::(gf,cs)::(ga,AR (.slice (some ⟨gx,0,none⟩) l2.length l2.length) live peak)::(gx,B l2)::(gs,sc)::rs) ss:=by
 have hlen:(Jp l 0 N).length=N:=A0d (by omega);have hcb:Bytes (Jp l 0 N):=A2Z hb;rcases HMD with ⟨rfl,rfl,h4⟩|⟨d0,hmd,hd,hk4⟩
 ·obtain rfl:t=54:=ht.2 rfl;refine (A6w gd ga gx gs sp spc N n mk px sc l live peak bud 3 pr pp q came bv st told all e w0 w rs ss hm h0 h2 h3 (h_ fun W=>Pol.A4O 3 W) ⟨n1,by omega,by omega,hf,h4,hl1,hl2,i1x,i2x,hb⟩).mono ?_;rintro x w' ⟨gf,l2,rfl,hl3,hc,hF,hW,hm⟩;exact ⟨gf,l2,_,rfl,hl3,hF.byt,⟨hk,by simp only [hlen];exact hc,Nat.zero_le _,Nat.zero_le _,by simp only [hlen];omega,i1x,by simp only [hlen];exact i2x,hcb,.inl ⟨rfl,rfl,by simp only [hlen];rfl,by simp only [hlen];exact hF,by simp only [hlen];exact hW⟩⟩,hm⟩
 ·have ht7:t=57:=by
   rcases hk with ⟨h,_⟩|⟨h,_⟩
   ·have:=ht.1 h;omega
   ·exact h
  subst ht7
  have hd2:d<=65536:=by
   rcases hmd with rfl|rfl
   ·have:Pol.dist 1=8192:=by decide
    omega
   ·have:Pol.dist 2=1024:=by decide
    omega
  have hdk:Pol.dok md=true:=by rcases hmd with rfl|rfl<;>rfl
  refine (A6x gd ga gx gs sp spc N n mk px sc l live peak bud md pr pp q came bv st told all e w0 w rs ss hm h0 h2 h3 d (h_ fun W=>by have:=Pol.A4O md W;rwa [<- hd,hdk] at this) hb ⟨n1,by omega,d0,hd2,by omega,hf,hk4,by omega⟩ hl1 hl2 i1x i2x).mono ?_;rintro x w' ⟨gf,l2,rfl,hl3,hc,hF,hm⟩;exact ⟨gf,l2,_,rfl,hl3,hF.sm.byt,⟨hk,by simp only [hlen];exact hc,Nat.zero_le _,Nat.zero_le _,by simp only [hlen];omega,i1x,by simp only [hlen];exact i2x,hcb,.inr ⟨rfl,d0,hd2,by simp only [hlen];rfl,by simp only [hlen];exact hF⟩⟩,hm⟩
def A4W (w0:World) (ss:List Sl) (F:Nat × A_) (Z:Rws) (gw ga n mk:Nat) (live:Int) (l2:I_) (t fv fn fr fs ft:Nat) (col:I_) (ix d:Nat) (X T:Int) (u:Value) (wr:World) (j:Nat):Prop :=
 ∃ (r k:Nat) (s a:Int) (cs:A_),u=.int .u32 a/\WyR ⟨col,ix,d,r,k,s⟩ ga n mk live l2 cs t fv fn fr fs ft/\k<=col.length/\j=col.length - k/\0<=s/\s+rco col ix d (col.length - k) r=T/\A30 col ix (col.length - k) r=true/\A5p a (wtx col ix (col.length - k) r)=X/\Own w0 wr (F::(gw,cs)::Z) ss
theorem A5n (t fv fn fr fs ft:Nat) (hk:WKd t fv fn fr fs ft) (gd ga gx n mk L:Nat) (live peak:Int) (col:I_) (ix d:Nat) (bud md:Int) (pa pr pp sv:Value) (m p q came:Int) (bv:Value) (st told all e:Int) (kd n1 m1 p1 z1:Int) (v:Value) (e1:Int) (w0 w:World) (Z rs:Rws) (ss:List Sl) (hm:Own w0 w ((gd,DRw bud md pa pr pp sv m p q came (bv) (st) told all e)::Z) ss) (CM:Hid (∀ W f,Own w0 W (f::(gd,DRw bud md pa pr pp sv m p q came (bv) (st) told all e)::Z) ss->Calls prog 114 #[.pointer (some ⟨gd,0,none⟩)] W fun x w'=>∃ gw l2 cs,x=.returned (.tuple #[.iface t (.pointer (some ⟨gw,0,none⟩)),.int .i64 0])/\l2.length=L/\Bytes l2/\WyR ⟨col,ix,d,0,0,0⟩ ga n mk live l2 cs t fv fn fr fs ft/\Own w0 w' (f::(gd,DRw bud md pa pr pp sv m p q came (bv) (st) told all e)::(gw,cs)::(ga,AR (.slice (some ⟨gx,0,none⟩) l2.length l2.length) live peak)::(gx,B l2)::rs) ss)) (hd2:d<=65536) (hn:col.length<=65536) (s0:0<=st) (s1:st<=1000000000000000) (hv:A30 col ix col.length 0=false):Calls prog 61 #[.pointer (some ⟨gd,0,none⟩),.agg (EVT kd n1 m1 p1 z1 v e1)] w fun x w'=>∃ gw l2 cs,x=.returned (.int .i64 (170))/\l2.length=L/\Bytes l2/\Own w0 w' ((gd,DRw bud md pa pr pp sv m p q came (bv) (st+A7g col ix d) told all e)::(gw,cs)::(ga,AR (.slice (some ⟨gx,0,none⟩) l2.length l2.length) live peak)::(gx,B l2)::rs) ss:=by
 have h_N:=fun gw W=>(A7i hk gw W).1;have h_S:=fun gw W=>(A7i hk gw W).2.2.1;have h_V:=fun gw W=>(A7i hk gw W).2.2.2.1;have h_R:=fun gw W=>(A7i hk gw W).2.2.2.2;have hC:=A39 (col:=col) (ix:=ix) hd2 col.length 0;rw [<- A7h] at hC;have HV:=h_ hv;clear hv;have x1:IntKind.i64.wrap (st+A7g col ix d)=st+A7g col ix d:=i_6;rcases hk with ⟨rfl,rfl,rfl,rfl,rfl,rfl⟩|⟨rfl,rfl,rfl,rfl,rfl,rfl⟩
 all_goals
  go_enter func61,ntmps61
  go_wp2_with (first
   |(go_at_call 114;have _t:=hm;refine (CM.out _ _ hm).mono ?_;clear _t hm;rintro e1 w1 ⟨gw,l2,cs,rfl,hl2,hb2,hW,hm⟩;replace hm:=hm.dropRow;obtain ⟨cs1,hW1,CV⟩:=A3S (gw:=gw) (gx:=gx) (peak:=peak) (w0:=w0) (rs:=rs) (ss:=ss) hW HV.out;have HB2:=h_ hb2;have HL2:=h_ hl2;have HW1:=h_ hW1;have CVh:=h_ CV;clear hW hW1 CV hb2 hl2)
   |((first|go_at_call 28|go_at_call 29);have _t:=hm;refine (CVh.out _ _ hm).mono ?_;clear _t hm;rintro e2 w2 ⟨rfl,hm⟩)
   |(with_reducible refine wb hm ?_;clear hm;intro w g hm))
  go_loopw [8] (fun u wr=>u=.int .u32 0/\Own w0 wr ((gd,DRw bud md pa pr pp sv m p q came (bv) (st) told all e)::(gw,cs1)::(ga,AR (.slice (some ⟨gx,0,none⟩) l2.length l2.length) live peak)::(gx,B l2)::rs) ss) (fun _ _=>0)
  case atStart=>exact ⟨rfl,hm⟩
  case round =>
   clear hm;obtain ⟨rfl,hm⟩:=hrel
   go_upto_region 11 with fail
   refine rO hm 9 (.rds [(0,false),(1,false),(2,false),(3,true),(4,false)] (.one 5 (.rds [(6,false),(7,false),(8,false)] (.brk 9 10 .done)))) ?_;clear hm;intro w hm;simp only [KT.rds]
   iterate 3 refine kq ?_
   refine km (fun W hm=>ld 0 hm rfl rfl rfl (ot rfl) rfl) ?_;refine kq ?_;refine DJ rfl rfl (fun K hK=>?_);go_simp;refine (HW1.out.steps _ _ _ hm).mono ?_;rintro e w1 ⟨rfl,rfl⟩;refine hK _ _ ⟨fun W=>Own _ W _ _,fun _ h=>h,hm,?_⟩;clear hK K
   try simp only [Act.put,s3]
   (refine K_p rfl rfl (fun W=>by go_simp;(first|(rw [IntWalk.i64_in _ (by omega)];done)|(rw [IntWalk.i64_in _ (by omega)];rfl)|rfl)) ?_)
   try simp only [Act.put,s3]
   iterate 2 refine kq ?_
   (refine Em rfl rfl (AZ 0 hm rfl rfl (Ac rfl) rfl (ot rfl) (by simp) rfl rfl rfl ?_))
   clear hm;intro w hm
   try simp only [puts,s2,List.set,List.eraseIdx,s3] at hm
   refine ⟨fun W=>Own _ W _ _,hm,?_⟩
   try simp only [Act.put,s3]
   refine Ba ?_;go_simp;go_wp2;go_ret;exact ⟨gw,l2,cs1,rfl,HL2.out,HB2.out,hm⟩
theorem A5m (t fv fn fr fs ft:Nat) (hk:WKd t fv fn fr fs ft) (gd ga gx n mk L:Nat) (live peak:Int) (col:I_) (ix d:Nat) (bud md:Int) (pa pr pp sv:Value) (m p q came:Int) (bv:Value) (st told all e:Int) (kd n1 m1 p1 z1:Int) (v:Value) (e1:Int) (w0 w:World) (Z rs:Rws) (ss:List Sl) (hm:Own w0 w ((gd,DRw bud md pa pr pp sv m p q came (bv) (st) told all e)::Z) ss) (CM:Hid (∀ W f,Own w0 W (f::(gd,DRw bud md pa pr pp sv m p q came (bv) (st) told all e)::Z) ss->Calls prog 114 #[.pointer (some ⟨gd,0,none⟩)] W fun x w'=>∃ gw l2 cs,x=.returned (.tuple #[.iface t (.pointer (some ⟨gw,0,none⟩)),.int .i64 0])/\l2.length=L/\Bytes l2/\WyR ⟨col,ix,d,0,0,0⟩ ga n mk live l2 cs t fv fn fr fs ft/\Own w0 w' (f::(gd,DRw bud md pa pr pp sv m p q came (bv) (st) told all e)::(gw,cs)::(ga,AR (.slice (some ⟨gx,0,none⟩) l2.length l2.length) live peak)::(gx,B l2)::rs) ss)) (hd2:d<=65536) (hn:col.length<=65536) (s0:0<=st) (s1:st<=1000000000000000) (hv:A30 col ix col.length 0=true) (hq:A5p 0 (wtx col ix col.length 0) ≠ q):Calls prog 61 #[.pointer (some ⟨gd,0,none⟩),.agg (EVT kd n1 m1 p1 z1 v e1)] w fun x w'=>∃ gw l2 cs,x=.returned (.int .i64 (250))/\l2.length=L/\Bytes l2/\Own w0 w' ((gd,DRw bud md pa pr pp sv m p q came (bv) (st+(A7g col ix d+A7g col ix d)) told all e)::(gw,cs)::(ga,AR (.slice (some ⟨gx,0,none⟩) l2.length l2.length) live peak)::(gx,B l2)::rs) ss:=by
 have h_N:=fun gw W=>(A7i hk gw W).1;have h_S:=fun gw W=>(A7i hk gw W).2.2.1;have h_V:=fun gw W=>(A7i hk gw W).2.2.2.1;have h_R:=fun gw W=>(A7i hk gw W).2.2.2.2;have hC:=A39 (col:=col) (ix:=ix) hd2 col.length 0;rw [<- A7h] at hC;have HV:=h_ hv;clear hv;obtain ⟨X,hX⟩:∃ X,A5p 0 (wtx col ix col.length 0)=X:=⟨_,rfl⟩;obtain ⟨T,hT⟩:∃ T,A7g col ix d+A7g col ix d=T:=⟨_,rfl⟩;rw [hX] at hq;have HX:=h_ hX;have HT:=h_ hT;clear hX hT;obtain ⟨i1,hE1⟩:=A4t;have HE1:=h_ hE1;obtain ⟨i2,hE2⟩:=wO;have HE2:=h_ hE2;clear hE1 hE2;rcases hk with ⟨rfl,rfl,rfl,rfl,rfl,rfl⟩|⟨rfl,rfl,rfl,rfl,rfl,rfl⟩
 all_goals
  go_enter func61,ntmps61
  go_wp2_with (first
   |(go_at_call 114;have _t:=hm;refine (CM.out _ _ hm).mono ?_;clear _t hm;rintro e1 w1 ⟨gw,l2,cs,rfl,hl2,hb2,hW,hm⟩;replace hm:=hm.dropRow;obtain ⟨cs1,hW1,CV⟩:=A3S (gw:=gw) (gx:=gx) (peak:=peak) (w0:=w0) (rs:=rs) (ss:=ss) hW HV.out;have HB2:=h_ hb2;have HL2:=h_ hl2;have HW1:=h_ hW1;have CVh:=h_ CV;clear hW hW1 CV hb2 hl2)
   |((first|go_at_call 28|go_at_call 29);have _t:=hm;refine (CVh.out _ _ hm).mono ?_;clear _t hm;rintro e2 w2 ⟨rfl,hm⟩)
   |(with_reducible refine wb hm ?_;clear hm;intro w g hm))
  first
  |(go_loopw [8] (fun u wr=>∃ j,A4W w0 ss (gd,DRw bud md pa pr pp sv m p q came (bv) (st) told all e) ((ga,AR (.slice (some ⟨gx,0,none⟩) l2.length l2.length) live peak)::(gx,B l2)::rs) gw ga n mk live l2 54 28 30 311 312 313 col ix d X T u wr j) (fun u wr=>Po (A4W w0 ss (gd,DRw bud md pa pr pp sv m p q came (bv) (st) told all e) ((ga,AR (.slice (some ⟨gx,0,none⟩) l2.length l2.length) live peak)::(gx,B l2)::rs) gw ga n mk live l2 54 28 30 311 312 313 col ix d X T u wr));case atStart=>exact ⟨_,0,0,_,0,cs1,rfl,HW1.out,Nat.zero_le _,rfl,by omega,by rw [Nat.sub_zero,<- A7h];exact HT.out,by rw [Nat.sub_zero];exact HV.out,by rw [Nat.sub_zero];exact HX.out,hm⟩)
  |(go_loopw [8] (fun u wr=>∃ j,A4W w0 ss (gd,DRw bud md pa pr pp sv m p q came (bv) (st) told all e) ((ga,AR (.slice (some ⟨gx,0,none⟩) l2.length l2.length) live peak)::(gx,B l2)::rs) gw ga n mk live l2 57 29 31 314 315 316 col ix d X T u wr j) (fun u wr=>Po (A4W w0 ss (gd,DRw bud md pa pr pp sv m p q came (bv) (st) told all e) ((ga,AR (.slice (some ⟨gx,0,none⟩) l2.length l2.length) live peak)::(gx,B l2)::rs) gw ga n mk live l2 57 29 31 314 315 316 col ix d X T u wr));case atStart=>exact ⟨_,0,0,_,0,cs1,rfl,HW1.out,Nat.zero_le _,rfl,by omega,by rw [Nat.sub_zero,<- A7h];exact HT.out,by rw [Nat.sub_zero];exact HV.out,by rw [Nat.sub_zero];exact HX.out,hm⟩)
  case round =>
   clear hm;obtain ⟨n0,hn0⟩:=hrel;have hn:=YV hn0;clear hn0;obtain ⟨r,k,s,a,cs,rfl,hW,hkl,hj,hs0,hT,hVl,hXl,hm⟩:=hn;have hrb:=(A39 (col:=col) (ix:=ix) hd2 (col.length - k) r).1;by_cases hkk:k < col.length
   ·exact xan
   ·obtain rfl:k=col.length:=by omega
    rw [Nat.sub_self,A3W,Int.add_zero] at hT;rw [Nat.sub_self] at hXl;subst hT;have CNh:=h_ (hW.done (gw:=gw) (gx:=gx) (peak:=peak) (w0:=w0) (rs:=rs) (ss:=ss) rfl hs0 (by have:=HT.out;show s<=100000000000000;omega));obtain rfl:a=X:=hXl;have HW:=h_ hW;have x1:IntKind.i64.wrap (st+s)=st+s:=IntWalk.i64_in _ (by have:=HT.out;omega);have x2:(a != q)=true:=by simpa using hq
    clear hW hVl hj hrb
    go_upto_region 11 with (first
     |((first|go_at_call 30|go_at_call 31);have _t:=hm;refine (CNh.out _ _ hm).mono ?_;clear _t hm;rintro e1 w1 ⟨rfl,hm⟩)
     |(with_reducible refine wl 72 0 hm ?_))
    refine rO hm 9 (.rds [(0,false),(1,false),(2,false),(3,true),(4,false)] (.one 5 (.rds [(6,false),(7,false),(8,false)] (.brk 9 10 .done)))) ?_;clear hm;intro w hm;simp only [KT.rds]
    iterate 3 refine kq ?_
    refine km (fun W hm=>ld 0 hm rfl rfl rfl (ot rfl) rfl) ?_;refine kq ?_;refine DJ rfl rfl (fun K hK=>?_);go_simp;refine (HW.out.steps _ _ _ hm).mono ?_;rintro e w1 ⟨rfl,rfl⟩;refine hK _ _ ⟨fun W=>Own _ W _ _,fun _ h=>h,hm,?_⟩;clear hK K
    try simp only [Act.put,s3]
    (refine K_p rfl rfl (fun W=>by go_simp;(first|(rw [IntWalk.i64_in _ (by omega)];done)|(rw [IntWalk.i64_in _ (by omega)];rfl)|rfl)) ?_)
    try simp only [Act.put,s3]
    iterate 2 refine kq ?_
    (refine Em rfl rfl (AZ 0 hm rfl rfl (Ac rfl) rfl (ot rfl) (by simp) rfl rfl rfl ?_))
    clear hm;intro w hm
    try simp only [puts,s2,List.set,List.eraseIdx,s3] at hm
    refine ⟨fun W=>Own _ W _ _,hm,?_⟩
    try simp only [Act.put,s3]
    refine Ba ?_;go_simp
    go_wp2_with (first
   |((first|go_at_call 30|go_at_call 31);have _t:=hm;refine (CNh.out _ _ hm).mono ?_;clear _t hm;rintro e1 w1 ⟨rfl,hm⟩)
   |(with_reducible refine wl 72 0 hm ?_))
    go_ret;exact ⟨gw,l2,_,rfl,HL2.out,HB2.out,by rw [HT.out];exact hm⟩
theorem A5Z (t fv fn fr fs ft:Nat) (hk:WKd t fv fn fr fs ft) (gd ga gx n mk L:Nat) (live peak:Int) (col:I_) (ix d:Nat) (bud md:Int) (pa pr pp sv:Value) (m p q came:Int) (bv:Value) (st told all e:Int) (kd n1 m1 p1 z1:Int) (v:Value) (e1:Int) (w0 w:World) (Z rs:Rws) (ss:List Sl) (hm:Own w0 w ((gd,DRw bud md pa pr pp sv m p q came (bv) (st) told all e)::Z) ss) (CM:Hid (∀ W f,Own w0 W (f::(gd,DRw bud md pa pr pp sv m p q came (bv) (st) told all e)::Z) ss->Calls prog 114 #[.pointer (some ⟨gd,0,none⟩)] W fun x w'=>∃ gw l2 cs,x=.returned (.tuple #[.iface t (.pointer (some ⟨gw,0,none⟩)),.int .i64 0])/\l2.length=L/\Bytes l2/\WyR ⟨col,ix,d,0,0,0⟩ ga n mk live l2 cs t fv fn fr fs ft/\Own w0 w' (f::(gd,DRw bud md pa pr pp sv m p q came (bv) (st) told all e)::(gw,cs)::(ga,AR (.slice (some ⟨gx,0,none⟩) l2.length l2.length) live peak)::(gx,B l2)::rs) ss)) (hd2:d<=65536) (hn:col.length<=65536) (s0:0<=st) (s1:st<=1000000000000000) (hv:A30 col ix col.length 0=true) (hq:A5p 0 (wtx col ix col.length 0)=q):Calls prog 61 #[.pointer (some ⟨gd,0,none⟩),.agg (EVT kd n1 m1 p1 z1 v e1)] w fun x w'=>∃ gw l2 cs,x=.returned (.int .i64 (0))/\l2.length=L/\Bytes l2/\WyR ⟨col,ix,d,0,0,A7g col ix d+A7g col ix d⟩ ga n mk live l2 cs t fv fn fr fs ft/\Own w0 w' ((gd,DRw bud md pa pr pp sv m p q came (.iface t (.pointer (some ⟨gw,0,none⟩))) (st) told all e)::(gw,cs)::(ga,AR (.slice (some ⟨gx,0,none⟩) l2.length l2.length) live peak)::(gx,B l2)::rs) ss:=by
 have h_N:=fun gw W=>(A7i hk gw W).1;have h_S:=fun gw W=>(A7i hk gw W).2.2.1;have h_V:=fun gw W=>(A7i hk gw W).2.2.2.1;have h_R:=fun gw W=>(A7i hk gw W).2.2.2.2;have hC:=A39 (col:=col) (ix:=ix) hd2 col.length 0;rw [<- A7h] at hC;have HV:=h_ hv;clear hv;obtain ⟨X,hX⟩:∃ X,A5p 0 (wtx col ix col.length 0)=X:=⟨_,rfl⟩;obtain ⟨T,hT⟩:∃ T,A7g col ix d+A7g col ix d=T:=⟨_,rfl⟩;rw [hX] at hq;have HX:=h_ hX;have HT:=h_ hT;clear hX hT;obtain ⟨i1,hE1⟩:=A4t;have HE1:=h_ hE1;obtain ⟨i2,hE2⟩:=wO;have HE2:=h_ hE2;clear hE1 hE2;rcases hk with ⟨rfl,rfl,rfl,rfl,rfl,rfl⟩|⟨rfl,rfl,rfl,rfl,rfl,rfl⟩
 all_goals
  go_enter func61,ntmps61
  go_wp2_with (first
   |(go_at_call 114;have _t:=hm;refine (CM.out _ _ hm).mono ?_;clear _t hm;rintro e1 w1 ⟨gw,l2,cs,rfl,hl2,hb2,hW,hm⟩;replace hm:=hm.dropRow;obtain ⟨cs1,hW1,CV⟩:=A3S (gw:=gw) (gx:=gx) (peak:=peak) (w0:=w0) (rs:=rs) (ss:=ss) hW HV.out;have HB2:=h_ hb2;have HL2:=h_ hl2;have HW1:=h_ hW1;have CVh:=h_ CV;clear hW hW1 CV hb2 hl2)
   |((first|go_at_call 28|go_at_call 29);have _t:=hm;refine (CVh.out _ _ hm).mono ?_;clear _t hm;rintro e2 w2 ⟨rfl,hm⟩)
   |(with_reducible refine wb hm ?_;clear hm;intro w g hm))
  first
  |(go_loopw [8] (fun u wr=>∃ j,A4W w0 ss (gd,DRw bud md pa pr pp sv m p q came (bv) (st) told all e) ((ga,AR (.slice (some ⟨gx,0,none⟩) l2.length l2.length) live peak)::(gx,B l2)::rs) gw ga n mk live l2 54 28 30 311 312 313 col ix d X T u wr j) (fun u wr=>Po (A4W w0 ss (gd,DRw bud md pa pr pp sv m p q came (bv) (st) told all e) ((ga,AR (.slice (some ⟨gx,0,none⟩) l2.length l2.length) live peak)::(gx,B l2)::rs) gw ga n mk live l2 54 28 30 311 312 313 col ix d X T u wr));case atStart=>exact ⟨_,0,0,_,0,cs1,rfl,HW1.out,Nat.zero_le _,rfl,by omega,by rw [Nat.sub_zero,<- A7h];exact HT.out,by rw [Nat.sub_zero];exact HV.out,by rw [Nat.sub_zero];exact HX.out,hm⟩)
  |(go_loopw [8] (fun u wr=>∃ j,A4W w0 ss (gd,DRw bud md pa pr pp sv m p q came (bv) (st) told all e) ((ga,AR (.slice (some ⟨gx,0,none⟩) l2.length l2.length) live peak)::(gx,B l2)::rs) gw ga n mk live l2 57 29 31 314 315 316 col ix d X T u wr j) (fun u wr=>Po (A4W w0 ss (gd,DRw bud md pa pr pp sv m p q came (bv) (st) told all e) ((ga,AR (.slice (some ⟨gx,0,none⟩) l2.length l2.length) live peak)::(gx,B l2)::rs) gw ga n mk live l2 57 29 31 314 315 316 col ix d X T u wr));case atStart=>exact ⟨_,0,0,_,0,cs1,rfl,HW1.out,Nat.zero_le _,rfl,by omega,by rw [Nat.sub_zero,<- A7h];exact HT.out,by rw [Nat.sub_zero];exact HV.out,by rw [Nat.sub_zero];exact HX.out,hm⟩)
  case round =>
   clear hm;obtain ⟨n0,hn0⟩:=hrel;have hn:=YV hn0;clear hn0;obtain ⟨r,k,s,a,cs,rfl,hW,hkl,hj,hs0,hT,hVl,hXl,hm⟩:=hn;have hrb:=(A39 (col:=col) (ix:=ix) hd2 (col.length - k) r).1;by_cases hkk:k < col.length
   ·exact xan
   ·obtain rfl:k=col.length:=by omega
    rw [Nat.sub_self,A3W,Int.add_zero] at hT;rw [Nat.sub_self] at hXl;subst hT;have CNh:=h_ (hW.done (gw:=gw) (gx:=gx) (peak:=peak) (w0:=w0) (rs:=rs) (ss:=ss) rfl hs0 (by have:=HT.out;show s<=100000000000000;omega));obtain rfl:a=X:=hXl;obtain ⟨cs3,hW3,CR⟩:=A6e (gw:=gw) (w0:=w0) (ss:=ss) hW;have HW3:=h_ hW3;have CRh:=h_ CR;subst hq;have x2:(a != a)=false:=by simp
    clear hW hVl hj hrb hW3 CR
    go_wp2_with (first
   |((first|go_at_call 30|go_at_call 31);have _t:=hm;refine (CNh.out _ _ hm).mono ?_;clear _t hm;rintro e1 w1 ⟨rfl,hm⟩)
   |((first|go_at_call 311|go_at_call 314);have _t:=hm;refine (CRh.out _ _ _ hm).mono ?_;clear _t hm;rintro e1 w1 ⟨rfl,hm⟩)
   |(with_reducible first|(refine wl 72 0 hm ?_)|(refine wc 104 0 hm ?_;clear hm;intro w hm)))
    go_ret;exact ⟨gw,l2,cs3,rfl,HL2.out,HB2.out,by rw [HT.out];exact HW3.out,hm⟩
variable {N ec live md mo peak:Int} {l:I_} {ga n:Nat} {S:Rws} {sv:Value}
def A7c (n mk:Nat) (mo:Int):Prop:=(mo=3/\mk=4 * (n+1))\/(mo=1/\mk=1024 * (n / 8192))\/(mo=2/\mk=1024 * (n / 1024))
def SpR (S:Rws) (sv:Value) (n mk:Nat):Prop:=∃ (gs sp spc:Nat) (sc:A_),sv=.slice (some ⟨gs,sp,none⟩) 2 spc/\S=[(gs,sc)]/\sc[sp]?=some (.int .i64 0)/\sc[sp+1]?=some (.int .i64 n)/\sc[sp+2]?=some (.int .i64 n)/\sc[sp+3]?=some (.int .i64 mk)
theorem SpR.A09 {mk:Nat} (h:Lies 2 S sv 2 [.int .i64 0,.int .i64 n,.int .i64 n,.int .i64 mk]):SpR S sv n mk:=by
 rcases h.2 with ⟨_,h,_⟩|⟨g,p,c,cells,rfl,rfl,_,_,hc⟩
 ·cases h
 ·exact ⟨g,p,c,cells,rfl,rfl,hc 0 (by simp),hc 1 (by simp),hc 2 (by simp),hc 3 (by simp)⟩
def HdR (s:Dk) (l:I_) (md live peak:Int) (sv:Value) (S:Rws) (n mk:Nat):Prop:=match s.hd with
|none=>md=0/\live=0/\peak=0/\sv=.slice none 0 0/\S=[]/\s.out=[]
|some (N,mo)=>N=n/\md=mo/\1<=n/\n<=65536/\A7c n mk mo/\live=n+mk/\SpR S sv n mk/\s.out.length<=n/\Jp l 0 s.out.length=s.out
def BkR (s:Dk) (l:I_) (live:Int) (ga n mk:Nat) (bv:Value) (X:Rws):Prop:=match s.bk with
|none=>bv=.nilIface/\X=[]
|some w=>∃ (gw:Nat) (cs:A_) (t fv fn fr fs ft:Nat),X=[(gw,cs)]/\bv=.iface t (.pointer (some ⟨gw,0,none⟩))/\WyR w ga n mk live l cs t fv fn fr fs ft/\(w.col.length:Int)=s.m/\w.k < w.col.length/\A30 w.col w.ix (w.col.length - w.k) w.r=true/\0<=w.st/\w.d<=65536/\w.st+rco w.col w.ix w.d (w.col.length - w.k) w.r<=40000000000
theorem HdR.mkn {s:Dk} {mk:Nat} (h:s.hd=none) (hc:md=0/\live=0/\peak=0/\sv=.slice none 0 0/\S=[]/\s.out=[]):HdR s l md live peak sv S n mk:=by
 rw [HdR,h];exact hc
theorem HdR.mks {s:Dk} {mk:Nat} (h:s.hd=some (N,mo)) (hc:N=n/\md=mo/\1<=n/\n<=65536/\A7c n mk mo/\live=n+mk/\SpR S sv n mk/\s.out.length<=n/\Jp l 0 s.out.length=s.out):HdR s l md live peak sv S n mk:=by
 rw [HdR,h];exact hc
theorem BkR.mkn {s:Dk} {mk:Nat} (h:s.bk=none):BkR s l live ga n mk .nilIface []:=by
 rw [BkR,h];exact ⟨rfl,rfl⟩
def Dk.mdz (s:Dk):Int:=match s.hd with
|none=>0
|some (_,mo)=>mo
def A7k (bud gd gr gp:Nat) (s:Dk) (ec:Int) (D:Rws):Prop:=∃ (ga gx n mk:Nat) (l:I_) (md live peak:Int) (sv bv:Value) (S X:Rws),
 l.length=bud/\Bytes l/\0<=peak/\peak<=bud/\live<=bud /\
 D=(gd,DRw bud md (.pointer (some ⟨ga,0,none⟩)) (.pointer (some ⟨gr,0,none⟩)) (.pointer (some ⟨gp,0,none⟩)) sv s.m s.p s.q s.out.length bv s.st s.told s.all ec)::(X++((ga,AR (.slice (some ⟨gx,0,none⟩) l.length l.length) live peak)::(gx,B l)::S)) /\
 (md=s.mdz/\(s.bk=none->bv=.nilIface))/\(s.e=0->HdR s l md live peak sv S n mk/\BkR s l live ga n mk bv X)
theorem A7k.row {bud gd gr gp:Nat} {s:Dk} {D:Rws} (h:A7k bud gd gr gp s ec D):∃ (md:Int) (pa sv:Value) (bv:Value) (RR:Rws),D=(gd,DRw bud md pa (.pointer (some ⟨gr,0,none⟩)) (.pointer (some ⟨gp,0,none⟩)) sv s.m s.p s.q s.out.length bv s.st s.told s.all ec)::RR:=by
 obtain ⟨ga,gx,n,mk,l,md,live,peak,sv,bv,S,X,_,_,_,_,_,rfl,_⟩:=h;exact ⟨_,_,_,_,_,rfl⟩
structure WkB (w:Wk):Prop where
 k:w.k < w.col.length
 n:w.col.length<=65536
 s0:0<=w.st
 d:w.d<=65536
 v:A30 w.col w.ix (w.col.length - w.k) w.r=true
 s1:w.st+rco w.col w.ix w.d (w.col.length - w.k) w.r<=40000000000
theorem WkB.step {w:Wk} (h:WkB w):w.r ≠ w.ix/\0<=w.next.st/\w.next.st<=40000000000/\(w.k+1 < w.col.length->WkB w.next):=by
 obtain ⟨hk,hn,s0,d,hv,s1⟩:=h;obtain ⟨i,hi⟩:∃ i,w.col.length - w.k=i+1:=⟨w.col.length - w.k - 1,by omega⟩;rw [hi] at hv s1;have hr:w.r ≠ w.ix:=fun e=>by rw [A30,if_pos e] at hv;cases hv
 rw [A30,if_neg hr] at hv;rw [A3r hr] at s1;have hc:w.cost=(if w.d=0 then 1 else 1+((Iw w.ix w.r % w.d:Nat):Int)):=rfl;rw [<- hc] at s1;have hc0:0<=w.cost:=by rw [hc];split<;>omega
 have hro:=(A39 (col:=w.col) (ix:=w.ix) d i (aft w.col (Iw w.ix w.r)).toNat).1;have e:w.next.st=w.st+w.cost:=rfl;refine ⟨hr,by omega,by omega,fun hlt=>⟨hlt,hn,by omega,d,?_,?_⟩⟩
 ·show A30 w.col w.ix (w.col.length - (w.k+1)) (aft w.col (Iw w.ix w.r)).toNat=true;rw [show w.col.length - (w.k+1)=i by omega];exact hv
 ·show w.next.st+rco w.col w.ix w.d (w.col.length - (w.k+1)) (aft w.col (Iw w.ix w.r)).toNat<=40000000000;rw [show w.col.length - (w.k+1)=i by omega];omega
structure DI (s:Dk):Prop where
 hd:s.e=0->match s.hd with
 |none=>s.c.s.ph=0/\∀ N m p q g,EI s.c N m p q g
 |some (N,_)=>s.c.s.ph ≠ 0/\EI s.c N s.m s.p s.q s.out.length
 bk:s.e=0->∀ w,s.bk=some w->(w.col.length:Int)=s.m/\WkB w/\s.c.s.ph=1
section
variable {bud gd gr gp:Nat} {s:Dk} {D:Rws} {w0 w:World} {rs:Rws} {ss:List Sl}
theorem A75 (h:A7k bud gd gr gp s 0 D) (he:s.e=0) (hm:Own w0 w (D++rs) ss) (t0:0<=s.told) (t1:s.told<=1000000000000) (s0:0<=s.st) (s1:s.st<=1000000000000000):Calls prog 63 #[.pointer (some ⟨gd,0,none⟩)] w fun x w'=>(∃ wk D2,s.bk=some wk/\x=.returned (.tuple #[.int .u8 wk.byte,.bool true])/\A7k bud gd gr gp (s.tell wk) 0 D2/\Own w0 w' (D2++rs) ss)\/(s.bk=none/\x=.returned (.tuple #[.int .u8 0,.bool false])/\w'=w):=by
 obtain ⟨ga,gx,n,mk,l,md,live,peak,sv,bv,S,X,hl,hb,p0,p1,lv,rfl,hz,hh⟩:=h;obtain ⟨hH,hB⟩:=hh he;cases hbk:s.bk with
|none =>
  rw [BkR,hbk] at hB;obtain ⟨rfl,rfl⟩:=hB;refine (A6v gd bud md _ _ _ sv s.m s.p s.q s.out.length s.st s.told s.all 0 w0 w _ ss hm).mono ?_;rintro x w' ⟨rfl,rfl⟩;exact .inr ⟨rfl,rfl,rfl⟩
|some wk =>
  rw [BkR,hbk] at hB;obtain ⟨gw,cs,t,fv,fn,fr,fs,ft,rfl,rfl,hW,hcm,hk,hv,hst,hd,hbd⟩:=hB;obtain ⟨i,hi⟩:∃ i,wk.col.length - wk.k=i+1:=⟨wk.col.length - wk.k - 1,by omega⟩;rw [hi] at hv hbd;have hr:wk.r ≠ wk.ix:=fun e=>by rw [A30,if_pos e] at hv;cases hv
  rw [A30,if_neg hr] at hv;rw [A3r hr] at hbd;have hcost:wk.next.st=wk.st+wk.cost:=rfl;have hcb:wk.cost=(if wk.d=0 then 1 else 1+((Iw wk.ix wk.r % wk.d:Nat):Int)):=rfl;have hc0:0<=wk.cost:=by rw [hcb];split<;>omega
  rw [<- hcb] at hbd;have hro:=(A39 (col:=wk.col) (ix:=wk.ix) hd i (aft wk.col (Iw wk.ix wk.r)).toNat).1;obtain ⟨cs2,hW2,CN⟩:=hW.next (gw:=gw) (gx:=gx) (peak:=peak) (w0:=w0) (rs:=S++rs) (ss:=ss) hr hk hst (by omega);have e1:wk.col.length - (wk.k+1)=i:=by omega
  refine (A6u t fv fn fr fs ft hW.kd gd gw cs cs2 wk.byte ((wk.k+1:Nat):Int) wk.next.st bud md _ _ _ sv s.m s.p s.q s.out.length s.st s.told s.all 0 w0 w _ ss hm (h_ CN) (h_ fun W f h=>hW2.told W f _ h) (h_ fun W f h=>hW2.steps W f _ h) t0 t1 s0 s1 (by omega) (by omega)).mono ?_;rintro x w' ⟨rfl,hm⟩;by_cases hkm:((wk.k+1:Nat):Int)=s.m
  ·rw [if_pos hkm,if_pos hkm] at hm;have et:s.tell wk={ s with bk:=none,told:=s.told+1,all:=crc s.all [[wk.byte]],st:=s.st+wk.next.st }:=if_pos hkm;refine .inl ⟨wk,(gd,DRw bud md (.pointer (some ⟨ga,0,none⟩)) (.pointer (some ⟨gr,0,none⟩)) (.pointer (some ⟨gp,0,none⟩)) sv s.m s.p s.q s.out.length .nilIface (s.st+wk.next.st) (s.told+1) (crc s.all [[wk.byte]]) 0)::([]++((ga,AR (.slice (some ⟨gx,0,none⟩) l.length l.length) live peak)::(gx,B l)::S)),rfl,rfl,?h,?g⟩
   case h =>
    rw [et];exact ⟨ga,gx,n,mk,l,md,live,peak,sv,_,S,[],hl,hb,p0,p1,lv,rfl,⟨hz.1,fun _=>rfl⟩,fun _=>⟨hH,rfl,rfl⟩⟩
   case g=>exact hm.sub (List.Sublist.cons_cons _ (List.Sublist.cons _ (List.Sublist.refl _))) (List.Sublist.refl _)
  ·rw [if_neg hkm,if_neg hkm] at hm;have et:s.tell wk={ s with bk:=some wk.next,told:=s.told+1,all:=crc s.all [[wk.byte]] }:=if_neg hkm;refine .inl ⟨wk,(gd,DRw bud md (.pointer (some ⟨ga,0,none⟩)) (.pointer (some ⟨gr,0,none⟩)) (.pointer (some ⟨gp,0,none⟩)) sv s.m s.p s.q s.out.length (.iface t (.pointer (some ⟨gw,0,none⟩))) s.st (s.told+1) (crc s.all [[wk.byte]]) 0)::([(gw,cs2)]++((ga,AR (.slice (some ⟨gx,0,none⟩) l.length l.length) live peak)::(gx,B l)::S)),rfl,rfl,?h,?g⟩
   case h =>
    rw [et];refine ⟨ga,gx,n,mk,l,md,live,peak,sv,_,S,[(gw,cs2)],hl,hb,p0,p1,lv,rfl,⟨hz.1,fun h=>(by cases h)⟩,fun _=>⟨hH,gw,cs2,t,fv,fn,fr,fs,ft,rfl,rfl,hW2,hcm,?_,?_,?_,hd,?_⟩⟩
    ·show wk.k+1 < wk.col.length;omega
    ·show A30 wk.col wk.ix (wk.col.length - (wk.k+1)) (aft wk.col (Iw wk.ix wk.r)).toNat=true;rw [e1];exact hv
    ·show 0<=wk.next.st;omega
    ·show wk.next.st+rco wk.col wk.ix wk.d (wk.col.length - (wk.k+1)) (aft wk.col (Iw wk.ix wk.r)).toNat<=40000000000;rw [e1];omega
   case g=>exact hm
end
variable {N mo:Int} {T b l out:I_} {n p:Nat} {A:Rws}
theorem A78 (l:I_) (n:Nat):Jp l 0 n=l.take n:=by simp [Jp,seg]
theorem A5L (h:p+b.length<=l.length):(A3c l p b).length=l.length:=by
 simp only [A3c,List.length_append,List.length_take,List.length_drop];omega
theorem A4E (hl:Bytes l) (hb:Bytes b):Bytes (A3c l p b):=fun x hx=>by
 rw [A3c,List.mem_append,List.mem_append] at hx;rcases hx with (hx|hx)|hx
 ·exact hl x (List.mem_of_mem_take hx)
 ·exact hb x hx
 ·exact hl x (List.mem_of_mem_drop hx)
theorem A5M (h:out.length+b.length<=l.length) (hc:Jp l 0 out.length=out):Jp (A3c l (0+out.length) b) 0 (out++b).length=out++b:=by
 rw [A78] at hc ⊢;rw [Nat.zero_add,A3c,hc];exact List.take_left' rfl
theorem A73 {bud:Nat} (b1:1<=bud) (b2:bud<=1048576) (n1:1<=n) (n2:n<=65536) (h:(Pol.pk bud n 2).2=0):∃ (mo:Int) (mk:Nat),Pol.pk bud n 2=(mo,0)/\A7c n mk mo/\Pol.lay n 2 mo=[(n:Int),mk]/\Pol.er n 2 mo=0/\n+mk<=bud/\(Lit.int .u8 mo).wf=true:=by
 have ha:∀ m:Int,m=1\/m=2\/m=3->Pol.A3i n 2 m:=fun m hm=>⟨by omega,by omega,.inr rfl,hm⟩;have hb:Pol.A61 bud:=⟨by omega,by omega⟩;have e:Pol.pk bud n 2=Pol.pkd bud n 2 3:=by rw [Pol.pk,if_pos ⟨ha 1 (by omega),hb⟩]
 have v1:=Pol.A3Z (ha 1 (by omega));have v2:=Pol.A3Z (ha 2 (by omega));have v3:=Pol.A3Z (ha 3 (by omega));simp only [show ¬ ((2:Int)=1) by omega,show ¬ ((3:Int)=1) by omega,show ¬ ((3:Int)=2) by omega,if_true,if_false] at v1 v2 v3
 have l1:Pol.lay n 2 1=[(n:Int),((1024 * (n / 8192):Nat):Int)]:=by
  rw [Pol.lay,if_pos (ha 1 (by omega)),if_neg (by omega),Pol.A5Q,if_pos rfl,show ((1024 * (n / 8192):Nat):Int)=1024 * ((n:Int) / 8192) by omega]
 have l2:Pol.lay n 2 2=[(n:Int),((1024 * (n / 1024):Nat):Int)]:=by
  rw [Pol.lay,if_pos (ha 2 (by omega)),if_neg (by omega),Pol.A5Q,if_neg (by omega),if_pos rfl,show ((1024 * (n / 1024):Nat):Int)=1024 * ((n:Int) / 1024) by omega]
 have l3:Pol.lay n 2 3=[(n:Int),((4 * (n+1):Nat):Int)]:=by
  rw [Pol.lay,if_pos (ha 3 (by omega)),if_neg (by omega),Pol.A5Q,if_neg (by omega),if_neg (by omega),show ((4 * (n+1):Nat):Int)=4 * ((n:Int)+1) by omega]
 rw [e] at h ⊢;by_cases h3:Pol.need n 2 ((2+1:Nat):Int)<=bud
 ·have e3:Pol.pkd bud n 2 3=(3,0):=by rw [Pol.pkd,if_pos h3];rfl
  have h3':Pol.need n 2 3<=bud:=h3;exact ⟨3,4 * (n+1),e3,.inl ⟨rfl,rfl⟩,l3,Pol.A4n (ha 3 (by omega)),by omega,by decide⟩
 ·by_cases h2:Pol.need n 2 ((1+1:Nat):Int)<=bud
  ·have e3:Pol.pkd bud n 2 3=(2,0):=by rw [Pol.pkd,if_neg h3,Pol.pkd,if_pos h2];rfl
   have h2':Pol.need n 2 2<=bud:=h2;exact ⟨2,1024 * (n / 1024),e3,.inr (.inr ⟨rfl,rfl⟩),l2,Pol.A4n (ha 2 (by omega)),by omega,by decide⟩
  ·by_cases h1:Pol.need n 2 ((0+1:Nat):Int)<=bud
   ·have e3:Pol.pkd bud n 2 3=(1,0):=by rw [Pol.pkd,if_neg h3,Pol.pkd,if_neg h2,Pol.pkd,if_pos h1];rfl
    have h1':Pol.need n 2 1<=bud:=h1;exact ⟨1,1024 * (n / 8192),e3,.inr (.inl ⟨rfl,rfl⟩),l1,Pol.A4n (ha 1 (by omega)),by omega,by decide⟩
   ·exfalso;rw [Pol.pkd,if_neg h3,Pol.pkd,if_neg h2,Pol.pkd,if_neg h1,Pol.pkd] at h;cases h
section
variable {bud gd gr gp:Nat} {s:Dk} {D:Rws} {w0 w:World} {rs:Rws} {ss:List Sl} {f:Nat × A_} {c2:Cf} {kd n1 m1 p1 s1:Int} {v:Value} {e1:Int}
theorem Own.tob (h:Own w0 w (f::(A++rs)) ss):Own w0 w (A++(f::rs)) ss:=h.perm List.perm_middle
theorem Own.tof (h:Own w0 w (A++(f::rs)) ss):Own w0 w (f::(A++rs)) ss:=h.perm List.perm_middle.symm
theorem A6t (h:A7k bud gd gr gp s 0 D) (he:s.e=0) (hk:s.bk=none) (hm:Own w0 w (f::(D++rs)) ss):Calls prog 59 #[.pointer (some ⟨gd,0,none⟩),.agg (EVT kd n1 m1 p1 s1 v e1)] w fun x w'=>∃ D2,x=.returned (.int .i64 0)/\A7k bud gd gr gp { s with c:=c2,m:=m1,p:=p1,q:=s1,out:=[] } 0 D2/\Own w0 w' (f::(D2++rs)) ss:=by
 obtain ⟨ga,gx,n,mk,l,md,live,peak,sv,bv,S,X,hl,hb,p0,p2,lv,rfl,hz,hh⟩:=h;refine (A6y kd n1 m1 p1 s1 v e1 gd bud md _ _ _ sv s.m s.p s.q s.out.length bv s.st s.told s.all 0 w0 w _ ss hm.tob).mono ?_;rintro x w' ⟨rfl,hm⟩;refine ⟨_,rfl,⟨ga,gx,n,mk,l,md,live,peak,sv,bv,S,X,hl,hb,p0,p2,lv,rfl,hz,fun _=>?_⟩,Own.tof (A:=_::_) hm⟩;obtain ⟨hH,hB⟩:=hh he;rw [BkR,hk] at hB;obtain ⟨rfl,rfl⟩:=hB;refine ⟨?_,BkR.mkn hk⟩;cases hd:s.hd with
|none =>
  rw [HdR,hd] at hH;exact HdR.mkn rfl ⟨hH.1,hH.2.1,hH.2.2.1,hH.2.2.2.1,hH.2.2.2.2.1,rfl⟩
|some o =>
  rw [HdR,hd] at hH;obtain ⟨a1,a2,a3,a4,a5,a6,a7,_,_⟩:=hH;exact HdR.mks rfl ⟨a1,a2,a3,a4,a5,a6,a7,Nat.zero_le _,by rw [A78];rfl⟩
theorem A5w (h:A7k bud gd gr gp s 0 D) (hm:Own w0 w (f::(D++rs)) ss):Calls prog 62 #[.pointer (some ⟨gd,0,none⟩),.agg (EVT kd n1 m1 p1 s1 v e1)] w fun x w'=>x=.returned (.int .i64 (if s1=s.all then 0 else 260))/\Own w0 w' (f::(D++rs)) ss:=by
 obtain ⟨ga,gx,n,mk,l,md,live,peak,sv,bv,S,X,hl,hb,p0,p2,lv,rfl,hz,hh⟩:=h;refine (A6R kd n1 m1 p1 s1 v e1 gd bud md _ _ _ sv s.m s.p s.q s.out.length bv s.st s.told s.all 0 w0 w _ ss hm.tob).mono ?_;exact xfj
theorem A6s (h:A7k bud gd gr gp s 0 D) (he:s.e=0) (hk:s.bk=none) (hd:s.hd=some (N,mo)) (hT:0 < T.length) (hTb:Bytes T) (hN:(s.out.length:Int)+T.length<=N) {X:Rws} (hX:Txt X v (vs .u8 T)) (b2:bud<=1048576) (hm:Own w0 w (f::(D++(X++rs))) ss):Calls prog 60 #[.pointer (some ⟨gd,0,none⟩),.agg (EVT kd n1 m1 p1 s1 v e1)] w fun x w'=>∃ D2,x=.returned (.int .i64 0)/\A7k bud gd gr gp { s with c:=c2,out:=s.out++T } 0 D2/\Own w0 w' (f::(D2++(X++rs))) ss:=by
 obtain ⟨ga,gx,n,mk,l,md,live,peak,sv,bv,S,Y,hl,hb,p0,p2,lv,rfl,hz,hh⟩:=h;obtain ⟨hH,hB⟩:=hh he;rw [BkR,hk] at hB;obtain ⟨rfl,rfl⟩:=hB;rw [HdR,hd] at hH;obtain ⟨rfl,rfl,a3,a4,a5,rfl,⟨gs,sp,spc,sc,rfl,rfl,h0,h1,h2,h3⟩,a8,a9⟩:=hH;rcases hX with ⟨rfl,hX,_⟩|⟨gt,tcap,tc,rfl,rfl,htc⟩
 ·have:T=[]:=by simpa [vs] using hX
  rw [this] at hT;cases hT
 rw [Ai] at htc ⊢
 have ht:∀ (j:Nat) (u:Value),(vs .u8 T)[j]?=some u->tc[j]?=some u:=fun j u hj=>by
  have hlt:j < T.length:=by have:=(List.getElem?_eq_some_iff.1 hj).1;rwa [Ai] at this
  rw [<- a_g,<- List.getElem?_take_of_lt hlt,htc,hj]
 refine (A6S gd ga gx gs gt sp spc n s.out.length tcap sc tc l T ((n+mk:Nat):Int) peak bud md _ _ s.m s.p s.q .nilIface s.st s.told s.all 0 kd n1 m1 p1 s1 e1 w0 w (f::rs) ss (by
  have hm:=Own.tob (A:=(_::([]++(_::_::[(gs,sc)])))++[(gt,tc)]) (by simpa using hm)
  simpa using hm) h0 h1 ht (by omega) (by omega) (by omega) (by omega) hT).mono ?_
 rintro x w' ⟨rfl,hm⟩;have hlen:(A3c l (0+s.out.length) T).length=l.length:=A5L (by omega);refine ⟨_,rfl,⟨ga,gx,n,mk,A3c l (0+s.out.length) T,md,((n+mk:Nat):Int),peak,.slice (some ⟨gs,sp,none⟩) 2 spc,.nilIface,[(gs,sc)],[],by rw [hlen,hl],A4E hb hTb,p0,p2,lv,rfl,⟨hz.1,fun _=>rfl⟩,fun _=>⟨?_,BkR.mkn hk⟩⟩,?_⟩
 ·exact HdR.mks hd ⟨rfl,rfl,a3,a4,a5,rfl,⟨gs,sp,spc,sc,rfl,rfl,h0,h1,h2,h3⟩,by rw [List.length_append];omega,A5M (by omega) a9⟩
 ·rw [hlen];have hm:=Own.tof (A:=(_::([]++(_::_::[(gs,sc)])))++[(gt,tc)]) (by simpa using hm);simpa using hm
theorem A4N (h:A7k bud gd gr gp s 0 D) (hp:(Pol.pk bud n 2).2 ≠ 0) (he:s.e=0) (hm:Own w0 w (f::(D++rs)) ss):Calls prog 58 #[.pointer (some ⟨gd,0,none⟩),.agg (EVT kd n m1 p1 s1 v e1)] w fun x w'=>x=.returned (.int .i64 (Pol.pk bud n 2).2)/\Own w0 w' (f::(D++rs)) ss:=by
 obtain ⟨ga,gx,n0,mk,l,md,live,peak,sv,bv,S,X,hl,hb,p0,p2,lv,rfl,hz,hh⟩:=h;refine (A4P gd ga gx n l bud md _ _ sv s.m s.p s.q s.out.length bv s.st s.told s.all 0 kd m1 p1 s1 v e1 w0 w _ ss (Pol.pk bud n 2).2 (Pol.pk bud n 2).1 hm.tob (h_ fun W=>Pol.pick_any bud n 2 W (by decide)) hp).mono ?_;exact xfj
theorem A5j (h:A7k bud gd gr gp s 0 D) (he:s.e=0) (hk:s.bk=none) (hd:s.hd=none) (n1':1<=n) (n2:n<=65536) (b1:1<=bud) (b2:bud<=1048576) (hp:(Pol.pk bud n 2).2=0) (hm:Own w0 w (f::(D++rs)) ss):Calls prog 58 #[.pointer (some ⟨gd,0,none⟩),.agg (EVT kd n m1 p1 s1 v e1)] w fun x w'=>∃ D2,x=.returned (.int .i64 0)/\A7k bud gd gr gp { s with c:=c2,hd:=some ((n:Int),(Pol.pk bud n 2).1) } 0 D2/\Own w0 w' (f::(D2++rs)) ss:=by
 obtain ⟨ga,gx,n0,mk0,l,md,live,peak,sv,bv,S,X,hl,hb,p0,p2,lv,rfl,hz,hh⟩:=h;obtain ⟨hH,hB⟩:=hh he;rw [BkR,hk] at hB;obtain ⟨rfl,rfl⟩:=hB;rw [HdR,hd] at hH;obtain ⟨rfl,rfl,rfl,rfl,rfl,ho⟩:=hH;obtain ⟨mo,mk,hpk,hMk,hlay,her,hfit,hwf⟩:=A73 b1 b2 n1' n2 hp;rw [hpk]
 have CP:Hid (∀ W,Calls prog 110 #[.int .i64 bud,.int .i64 n,.int .u8 2] W (Pol.A3b W (mo,0))):=h_ fun W=>by
  have:=Pol.pick_any bud n 2 W (by decide);rwa [hpk] at this
 have CL:Hid (∀ W,Calls prog 94 #[.int .i64 n,.int .u8 2,.int .u8 mo] W (Pol.A38 W [(n:Int),mk] 0)):=h_ fun W=>by
  have:=Pol.A44 n 2 mo W (by decide) hwf;rwa [hlay,her] at this
 refine (A5l gd ga gx n l bud 0 _ _ s.m s.p s.q s.out.length .nilIface s.st s.told s.all 0 kd m1 p1 s1 v e1 w0 w (f::rs) ss mk mo (by simpa using hm.tob) CP CL hb (by omega) (by omega)).mono ?_;rintro x w' ⟨rfl,S,sv,l2,pk,hX,hl2,hb2,q0,q1,hm⟩;refine ⟨_,rfl,⟨ga,gx,n,mk,l2,mo,((n+mk:Nat):Int),pk,sv,.nilIface,S,[],by omega,hb2,q0,by omega,by omega,rfl,⟨rfl,fun _=>rfl⟩,fun _=>⟨?_,BkR.mkn hk⟩⟩,?_⟩
 ·exact HdR.mks rfl ⟨rfl,rfl,n1',n2,hMk,rfl,SpR.A09 hX,by rw [ho];exact Nat.zero_le _,by rw [ho,A78];rfl⟩
 ·have hm:=Own.tof (A:=(_::([]++(_::_::S)))) (by simpa using hm);simpa using hm
end
theorem A5V:Pol.dist 1=8192/\Pol.dist 2=1024/\Pol.dist 3=0:=by decide
section
variable {bud gd gr gp:Nat} {s:Dk} {D:Rws} {w0 w:World} {rs:Rws} {ss:List Sl} {f:Nat × A_} {c2:Cf} {kd n1 m1 p1 s1:Int} {v:Value} {e1:Int}
theorem A6Q (h:A7k bud gd gr gp s 0 D) (he:s.e=0) (hk:s.bk=none) {N mo:Int} (hd:s.hd=some (N,mo)) (hm1:1<=s.m) (hmg:(s.out.length:Int)=s.m) (hp1:1<=s.p) (hp2:s.p<=s.m) (hmN:s.m<=N) (b2:bud<=1048576) (s0:0<=s.st) (s1':s.st<=1000000000000000) (hm:Own w0 w (f::(D++rs)) ss):Calls prog 61 #[.pointer (some ⟨gd,0,none⟩),.agg (EVT kd n1 m1 p1 s1 v e1)] w fun x w'=>∃ D2,x=.returned (.int .i64 (s.ends c2).e)/\A7k bud gd gr gp (s.ends c2) 0 D2/\Own w0 w' (f::(D2++rs)) ss:=by
 obtain ⟨ga,gx,n,mk,l,md,live,peak,sv,bv,S,Y,hl,hb,p0,p2,lv,rfl,hz,hh⟩:=h;obtain ⟨hH,hB⟩:=hh he;rw [BkR,hk] at hB;obtain ⟨rfl,rfl⟩:=hB;have hH0:=hH;rw [HdR,hd] at hH;obtain ⟨rfl,rfl,a3,a4,a5,rfl,⟨gs,sp,spc,sc,rfl,rfl,h0,h1,h2,h3⟩,a8,a9⟩:=hH;obtain ⟨M,hM⟩:∃ M:Nat,s.out.length=M:=⟨_,rfl⟩;obtain ⟨ix,hix⟩:∃ ix:Nat,s.p.toNat=ix:=⟨_,rfl⟩;have hpx:s.p=ix:=by omega
 have hsm:s.m=M:=by omega
 obtain ⟨d,hdd⟩:∃ d:Nat,s.d=d:=⟨_,rfl⟩;have hd2:d=(Pol.dist md).toNat:=by rw [<- hdd,Dk.d,hd]
 obtain ⟨v1,v2,v3⟩:=A5V
 have HMD:(d=0/\md=3/\4 * (M+1)<=mk)\/(0 < d/\(md=1\/md=2)/\(d:Int)=Pol.dist md/\1024 * (M / d)<=mk):=by
  rcases a5 with ⟨rfl,rfl⟩|⟨rfl,rfl⟩|⟨rfl,rfl⟩
  ·left;rw [v3] at hd2;exact ⟨by omega,rfl,by omega⟩
  ·right;rw [v1] at hd2;have hd3:d=8192:=by omega
   subst hd3;exact ⟨by omega,.inl rfl,by rw [v1];rfl,Nat.mul_le_mul_left _ (Nat.div_le_div_right (by omega))⟩
  ·right;rw [v2] at hd2;have hd3:d=1024:=by omega
   subst hd3;exact ⟨by omega,.inr rfl,by rw [v2];rfl,Nat.mul_le_mul_left _ (Nat.div_le_div_right (by omega))⟩
 have hd65:d<=65536:=by
  rcases HMD with ⟨h,_⟩|⟨_,h,e,_⟩
  ·omega
  ·rcases h with rfl|rfl
   ·rw [v1] at e;omega
   ·rw [v2] at e;omega
 obtain ⟨t,fv,fn,fr,fs,ft,hkd,ht⟩:∃ t fv fn fr fs ft,WKd t fv fn fr fs ft/\(t=54 ↔ d=0):=by
  by_cases h:d=0
  ·exact ⟨54,28,30,311,312,313,.inl ⟨rfl,rfl,rfl,rfl,rfl,rfl⟩,by simp [h]⟩
  ·exact ⟨57,29,31,314,315,316,.inr ⟨rfl,rfl,rfl,rfl,rfl,rfl⟩,by simp [h]⟩
 have hcol:Jp l 0 M=s.out:=by rw [<- hM];exact a9
 have CM:Hid (∀ W f',Own w0 W (f'::(gd,DRw bud md (.pointer (some ⟨ga,0,none⟩)) (.pointer (some ⟨gr,0,none⟩)) (.pointer (some ⟨gp,0,none⟩)) (.slice (some ⟨gs,sp,none⟩) 2 spc) s.m s.p s.q s.out.length .nilIface s.st s.told s.all 0)::((ga,AR (.slice (some ⟨gx,0,none⟩) l.length l.length) ((n+mk:Nat):Int) peak)::(gx,B l)::(gs,sc)::f::rs)) ss->Calls prog 114 #[.pointer (some ⟨gd,0,none⟩)] W fun x w'=>∃ gw l2 cs,x=.returned (.tuple #[.iface t (.pointer (some ⟨gw,0,none⟩)),.int .i64 0])/\l2.length=l.length/\Bytes l2/\WyR ⟨s.out,ix,d,0,0,0⟩ ga n mk ((n+mk:Nat):Int) l2 cs t fv fn fr fs ft/\Own w0 w' (f'::(gd,DRw bud md (.pointer (some ⟨ga,0,none⟩)) (.pointer (some ⟨gr,0,none⟩)) (.pointer (some ⟨gp,0,none⟩)) (.slice (some ⟨gs,sp,none⟩) 2 spc) s.m s.p s.q s.out.length .nilIface s.st s.told s.all 0)::(gw,cs)::(ga,AR (.slice (some ⟨gx,0,none⟩) l2.length l2.length) ((n+mk:Nat):Int) peak)::(gx,B l2)::(gs,sc)::f::rs) ss):=h_ fun W f' hm=>by
  have hm2:=Own.tob (f:=f') (A:=[_,_,_,_]) hm;rw [hsm,hpx] at hm2 ⊢;refine (A5k gd ga gx gs sp spc M n mk ix sc l ((n+mk:Nat):Int) peak bud md _ _ s.q s.out.length .nilIface s.st s.told s.all 0 w0 W (f'::f::rs) ss hm2 h0 h2 h3 d HMD (by omega) (by omega) a4 hb (by omega) (by omega) (by push_cast;omega) (by omega) (by omega) t fv fn fr fs ft hkd ht).mono ?_;rintro x w' ⟨gw,l2,cs,rfl,hl2,hb2,hW,hm⟩;rw [hcol] at hW;exact ⟨gw,l2,cs,rfl,hl2,hb2,hW,Own.tof (A:=[_,_,_,_,_]) hm⟩
 have hmm:=by simpa using hm.tob
 have fin:∀ (E st2:Int) (s2:Dk),s2.e=E->E ≠ 0->s2.m=s.m->s2.p=s.p->s2.q=s.q->s2.out=s.out->s2.st=st2->s2.told=s.told->s2.all=s.all->s2.hd=s.hd->∀ (x:Ending) (w':World),(∃ gw l2 cs,x=.returned (.int .i64 E)/\l2.length=l.length/\Bytes l2/\Own w0 w' ((gd,DRw bud md (.pointer (some ⟨ga,0,none⟩)) (.pointer (some ⟨gr,0,none⟩)) (.pointer (some ⟨gp,0,none⟩)) (.slice (some ⟨gs,sp,none⟩) 2 spc) s.m s.p s.q s.out.length .nilIface st2 s.told s.all 0)::(gw,cs)::(ga,AR (.slice (some ⟨gx,0,none⟩) l2.length l2.length) ((n+mk:Nat):Int) peak)::(gx,B l2)::(gs,sc)::f::rs) ss)->∃ D2,x=.returned (.int .i64 s2.e)/\A7k bud gd gr gp s2 0 D2/\Own w0 w' (f::(D2++rs)) ss:=by
  rintro E st2 s2 rfl hE e2 e3 e4 e5 rfl e7 e8 e9 x w' ⟨gw,l2,cs,rfl,hl2,hb2,hm⟩;refine ⟨_,rfl,⟨ga,gx,n,mk,l2,md,((n+mk:Nat):Int),peak,.slice (some ⟨gs,sp,none⟩) 2 spc,.nilIface,[(gs,sc)],[(gw,cs)],by omega,hb2,p0,p2,lv,rfl,⟨by rw [Dk.mdz,e9];exact hz.1,fun _=>rfl⟩,fun h=>absurd h hE⟩,?_⟩;rw [e2,e3,e4,e5,e7,e8];have hm:=Own.tof (A:=[_,_,_,_,_]) hm;simpa using hm
 by_cases hv:A30 s.out ix s.out.length 0=true
 ·by_cases hq:A5p 0 (wtx s.out ix s.out.length 0)=s.q
  ·have es:s.ends c2={ s with c:=c2,bk:=some ⟨s.out,ix,d,0,0,A7g s.out ix d+A7g s.out ix d⟩ }:=by
    rw [Dk.ends,hix,hdd,if_pos hv,if_pos hq]
   rw [es];refine (A5Z t fv fn fr fs ft hkd gd ga gx n mk l.length ((n+mk:Nat):Int) peak s.out ix d bud md _ _ _ _ s.m s.p s.q s.out.length .nilIface s.st s.told s.all 0 kd n1 m1 p1 s1 v e1 w0 w _ ((gs,sc)::f::rs) ss hmm CM hd65 (by omega) s0 s1' hv hq).mono ?_;rintro x w' ⟨gw,l2,cs,rfl,hl2,hb2,hW,hm⟩;have hbd:=A39 (col:=s.out) (ix:=ix) hd65 s.out.length 0;refine ⟨_,by rw [show ({ s with c:=c2,bk:=some ⟨s.out,ix,d,0,0,A7g s.out ix d+A7g s.out ix d⟩ }:Dk).e=s.e from rfl,he],⟨ga,gx,n,mk,l2,md,((n+mk:Nat):Int),peak,.slice (some ⟨gs,sp,none⟩) 2 spc,.iface t (.pointer (some ⟨gw,0,none⟩)),[(gs,sc)],[(gw,cs)],by omega,hb2,p0,p2,lv,rfl,⟨hz.1,fun h=>(by cases h)⟩,fun _=>⟨?_,?_⟩⟩,?_⟩
   ·refine HdR.mks hd ⟨rfl,rfl,a3,a4,a5,rfl,⟨gs,sp,spc,sc,rfl,rfl,h0,h1,h2,h3⟩,a8,hW.col⟩
   ·rw [BkR];simp only;refine ⟨gw,cs,t,fv,fn,fr,fs,ft,rfl,rfl,hW,hmg,by show 0 < s.out.length;omega,by show A30 s.out ix (s.out.length - 0) 0=true;rw [Nat.sub_zero];exact hv,?_,hd65,?_⟩
    ·show 0<=A7g s.out ix d+A7g s.out ix d;rw [A7h];omega
    ·show A7g s.out ix d+A7g s.out ix d+rco s.out ix d (s.out.length - 0) 0<=40000000000;rw [Nat.sub_zero,A7h];omega
   ·have hm:=Own.tof (A:=[_,_,_,_,_]) hm;simpa using hm
  ·have es:s.ends c2={ s with c:=c2,e:=250,st:=s.st+(A7g s.out ix d+A7g s.out ix d) }:=by
    rw [Dk.ends,hix,hdd,if_pos hv,if_neg hq]
   rw [es];refine (A5m t fv fn fr fs ft hkd gd ga gx n mk l.length ((n+mk:Nat):Int) peak s.out ix d bud md _ _ _ _ s.m s.p s.q s.out.length .nilIface s.st s.told s.all 0 kd n1 m1 p1 s1 v e1 w0 w _ ((gs,sc)::f::rs) ss hmm CM hd65 (by omega) s0 s1' hv hq).mono ?_;rintro x w' hx;exact fin 250 (s.st+(A7g s.out ix d+A7g s.out ix d)) { s with c:=c2,e:=250,st:=s.st+(A7g s.out ix d+A7g s.out ix d) } rfl (by decide) rfl rfl rfl rfl rfl rfl rfl rfl x w' hx
 ·have es:s.ends c2={ s with c:=c2,e:=170,st:=s.st+A7g s.out ix d }:=by
   rw [Dk.ends,hix,hdd,if_neg hv]
  rw [es];refine (A5n t fv fn fr fs ft hkd gd ga gx n mk l.length ((n+mk:Nat):Int) peak s.out ix d bud md _ _ _ _ s.m s.p s.q s.out.length .nilIface s.st s.told s.all 0 kd n1 m1 p1 s1 v e1 w0 w _ ((gs,sc)::f::rs) ss hmm CM hd65 (by omega) s0 s1' (by simpa using hv)).mono ?_;rintro x w' hx;exact fin 170 (s.st+A7g s.out ix d) { s with c:=c2,e:=170,st:=s.st+A7g s.out ix d } rfl (by decide) rfl rfl rfl rfl rfl rfl rfl rfl x w' hx
end
variable {a:Act} {Q:Exit->P_} {l:Q_} {ss:List Sl} {gd id k:Nat} {P:Program} {rs:Rws} {w w0:World} {S:World->Prop}
theorem NM (hO:Own w0 w rs ss) (hS:∀ W,Own w0 W rs ss->S W) (k:Nat) (t:KT) (hm:P.follows .mixedOrders=true) (hs:Region.noSelect l.toArray=true) (hlen:t.depth=l.toArray.size)
  (hB:(!(Array.replicate l.toArray.size false).getD k false && okK l.toArray k (Qv l.toArray k) (Array.replicate l.toArray.size false) t)=true) (hQ:∀ c a d v w,Q (.panic c) (a.put d v) w->Q (.panic c) a w)
  (h:∀ w',Own w0 w' rs ss->wpK P l.toArray Q t S a w'):(Code.region id l.toArray true).wp P Q a w :=
 Kv k t S hm hs hlen hB hQ (hS _ (hO.drawn _)) (h _ (hO.drawn _))
def mx (gd:Nat):Nat->L_
|0=>[]
|k+1=>.int .u8 ((k+2:Nat):Int)::.func (.func (58+k)) #[.pointer (some ⟨gd,0,none⟩)] #[]::mx gd k
theorem A3s {p:Value × Value}:p ∈ BN (mx gd k) ↔ ∃ j,j < k/\p=(.int .u8 ((j+2:Nat):Int),.func (.func (58+j)) #[.pointer (some ⟨gd,0,none⟩)] #[]):=by
 induction k with
|zero =>
  constructor
  ·intro h;cases h
  ·rintro ⟨_,h,_⟩;omega
|succ k ih =>
  simp only [mx,BN,List.mem_cons];rw [ih]
  constructor
  ·rintro (rfl|⟨j,h,rfl⟩)
   ·exact ⟨k,by omega,rfl⟩
   ·exact ⟨j,by omega,rfl⟩
  ·rintro ⟨j,h,rfl⟩;by_cases e:j=k
   ·subst e;exact .inl rfl
   ·exact .inr ⟨j,by omega,rfl⟩
theorem A3f (h:k < 6):∃ l,keyOf prog 5 (.int .u8 ((k+2:Nat):Int))=some l:=key5 (by
 have:k=0\/k=1\/k=2\/k=3\/k=4\/k=5:=by omega
 rcases this with rfl|rfl|rfl|rfl|rfl|rfl<;>decide)
theorem A31 (hk:k < 6):∀ p ∈ BN (mx gd k),∃ l,keyOf prog 5 p.1=some l:=fun p hp=>by
 obtain ⟨j,hj,rfl⟩:=A3s.1 hp;exact A3f (by omega)
theorem A42:∀ p ∈ BN (mx gd k),p.1 ≠ .int .u8 ((k+2:Nat):Int):=fun p hp e=>by
 obtain ⟨j,hj,rfl⟩:=A3s.1 hp;simp only [Value.int.injEq,true_and] at e;omega
theorem A41:∀ p ∈ BN (mx gd 5),p.1=.int .u8 ((k+2:Nat):Int)->p.2=.func (.func (58+k)) #[.pointer (some ⟨gd,0,none⟩)] #[]:=fun p hp e=>by
 obtain ⟨j,hj,rfl⟩:=A3s.1 hp;simp only [Value.int.injEq,true_and] at e;have:j=k:=by omega
 subst this;rfl
def StN (I:Nat->Rws->Prop) (w0:World) (ss:List Sl) (w:World) (n:Nat):Prop:=∃ R,I n R/\Own w0 w R ss
structure A6A (I:Nat->Rws->Prop) (J:Rsl->Rws->Prop) (gd gr gp:Nat) (w0:World) (n:Nat) (kd n1 m1 p1 s1:Int) (v:Value) (e1:Int) (bud md:Int) (pa sv:Value) (m p q came:Int) (bv:Value) (st told all:Int) (RR:Rws):Prop where
 kind:1<=kd/\kd<=8
 need:kd=1->J .need ((gd,DRw bud md pa (.pointer (some ⟨gr,0,none⟩)) (.pointer (some ⟨gp,0,none⟩)) sv m p q came bv st told all 0)::RR)
 fin:kd=7->J .fin ((gd,DRw bud md pa (.pointer (some ⟨gr,0,none⟩)) (.pointer (some ⟨gp,0,none⟩)) sv m p q came bv st told all 0)::RR)
 bad:kd=8->∃ j,j < n/\I j ((gd,DRw bud md pa (.pointer (some ⟨gr,0,none⟩)) (.pointer (some ⟨gp,0,none⟩)) sv m p q came bv st told all e1)::RR)
 act:2<=kd->kd<=6->∀ W f ss',Own w0 W (f::(gd,DRw bud md pa (.pointer (some ⟨gr,0,none⟩)) (.pointer (some ⟨gp,0,none⟩)) sv m p q came bv st told all 0)::RR) ss'->Calls prog (56+kd.toNat) #[.pointer (some ⟨gd,0,none⟩),.agg (EVT kd n1 m1 p1 s1 v e1)] W fun x w'=>∃ (er:Int) (bud md:Int) (pa sv:Value) (m p q came:Int) (bv:Value) (st told all:Int) (RR:Rws),x=.returned (.int .i64 er)/\Own w0 w' (f::(gd,DRw bud md pa (.pointer (some ⟨gr,0,none⟩)) (.pointer (some ⟨gp,0,none⟩)) sv m p q came bv st told all 0)::RR) ss'/\∃ j,j < n/\I j ((gd,DRw bud md pa (.pointer (some ⟨gr,0,none⟩)) (.pointer (some ⟨gp,0,none⟩)) sv m p q came bv st told all er)::RR)
theorem EVk (k N M P S:Int) (t:Value) (e:Int):(EVT k N M P S t e)[0]?=some (.int .u8 k):=rfl
theorem EVe (k N M P S:Int) (t:Value) (e:Int):(EVT k N M P S t e)[6]?=some (.int .i64 e):=rfl
theorem nbmap (gd gr gp:Nat) (R:Rws) (w0 w:World) (ss:List Sl) (hm:Own w0 w R ss) (I I2:Nat->Rws->Prop) (J:Rsl->Rws->Prop) (n0:Nat) (hI0:I n0 R) (HI:∀ n R,I n R->∃ (bud md:Int) (pa sv:Value) (m p q came:Int) (bv:Value) (st told all e:Int) (RR:Rws),R=(gd,DRw bud md pa (.pointer (some ⟨gr,0,none⟩)) (.pointer (some ⟨gp,0,none⟩)) sv m p q came bv st told all e)::RR) (HE:∀ n (bud md:Int) (pa sv:Value) (m p q came:Int) (bv:Value) (st told all:Int) (e:Int) (RR:Rws),e ≠ 0->I n ((gd,DRw bud md pa (.pointer (some ⟨gr,0,none⟩)) (.pointer (some ⟨gp,0,none⟩)) sv m p q came bv st told all e)::RR)->J (.bad e) ((gd,DRw bud md pa (.pointer (some ⟨gr,0,none⟩)) (.pointer (some ⟨gp,0,none⟩)) sv m p q came bv st told all e)::RR)) (HN:Hid (∀ n (bud md:Int) (pa sv:Value) (m p q came:Int) (bv:Value) (st told all:Int) (RR:Rws) W ss',I n ((gd,DRw bud md pa (.pointer (some ⟨gr,0,none⟩)) (.pointer (some ⟨gp,0,none⟩)) sv m p q came bv st told all 0)::RR)->Own w0 W ((gd,DRw bud md pa (.pointer (some ⟨gr,0,none⟩)) (.pointer (some ⟨gp,0,none⟩)) sv m p q came bv st told all 0)::RR) ss'->Calls prog 63 #[.pointer (some ⟨gd,0,none⟩)] W fun x w'=>(∃ b R2,x=.returned (.tuple #[.int .u8 b,.bool true])/\J (.byte b) R2/\Own w0 w' R2 ss')\/(x=.returned (.tuple #[.int .u8 0,.bool false])/\I2 n ((gd,DRw bud md pa (.pointer (some ⟨gr,0,none⟩)) (.pointer (some ⟨gp,0,none⟩)) sv m p q came bv st told all 0)::RR)/\Own w0 w' ((gd,DRw bud md pa (.pointer (some ⟨gr,0,none⟩)) (.pointer (some ⟨gp,0,none⟩)) sv m p q came bv st told all 0)::RR) ss'))) (HS:Hid (∀ n (bud md:Int) (pa sv:Value) (m p q came:Int) (bv:Value) (st told all:Int) (RR:Rws) W (A:Rws) ss',I2 n ((gd,DRw bud md pa (.pointer (some ⟨gr,0,none⟩)) (.pointer (some ⟨gp,0,none⟩)) sv m p q came bv st told all 0)::RR)->Own w0 W (A++((gd,DRw bud md pa (.pointer (some ⟨gr,0,none⟩)) (.pointer (some ⟨gp,0,none⟩)) sv m p q came bv st told all 0)::RR)) ss'->Calls prog 38 #[.pointer (some ⟨gp,0,none⟩),.pointer (some ⟨gr,0,none⟩)] W fun x w'=>∃ kd n1 m1 p1 s1 v e1 RR2,x=.returned (.agg (EVT kd n1 m1 p1 s1 v e1))/\v.oneCell'=true/\A6A I J gd gr gp w0 n kd n1 m1 p1 s1 v e1 bud md pa sv m p q came bv st told all RR2/\Own w0 w' (A++((gd,DRw bud md pa (.pointer (some ⟨gr,0,none⟩)) (.pointer (some ⟨gp,0,none⟩)) sv m p q came bv st told all 0)::RR2)) ss')):Calls prog 19 #[.pointer (some ⟨gd,0,none⟩)] w fun x w'=>∃ r R2,x=.returned (Rsl.val r)/\J r R2/\Own w0 w' R2 ss:=by
 obtain ⟨bud,md,pa,sv,m,p,q,came,bv,st,told,all,e,RR,rfl⟩:=HI _ _ hI0;go_enter func19,ntmps19
 go_wp2_with (first
  |(refine Ad rfl (BD hm rfl ?_);clear hm;intro w r hm hd;replace hm:Own _ _ _ (IK _ (mx gd 0)::_):=hm)
  |(refine Ad rfl (Bj (xs:=mx gd 0) (k:=.int .u8 ((0+2:Nat):Int)) (v:=.func (.func (58+0)) #[.pointer (some ⟨gd,0,none⟩)] #[]) hm hd rfl rfl rfl rfl underlying108 kd5 (A3f (by decide)) (A31 (by decide)) A42 ?_);clear hm;intro w hm;replace hm:Own _ _ _ (IK _ (mx gd 1)::_):=hm)
  |(refine Ad rfl (Bj (xs:=mx gd 1) (k:=.int .u8 ((1+2:Nat):Int)) (v:=.func (.func (58+1)) #[.pointer (some ⟨gd,0,none⟩)] #[]) hm hd rfl rfl rfl rfl underlying108 kd5 (A3f (by decide)) (A31 (by decide)) A42 ?_);clear hm;intro w hm;replace hm:Own _ _ _ (IK _ (mx gd 2)::_):=hm)
  |(refine Ad rfl (Bj (xs:=mx gd 2) (k:=.int .u8 ((2+2:Nat):Int)) (v:=.func (.func (58+2)) #[.pointer (some ⟨gd,0,none⟩)] #[]) hm hd rfl rfl rfl rfl underlying108 kd5 (A3f (by decide)) (A31 (by decide)) A42 ?_);clear hm;intro w hm;replace hm:Own _ _ _ (IK _ (mx gd 3)::_):=hm)
  |(refine Ad rfl (Bj (xs:=mx gd 3) (k:=.int .u8 ((3+2:Nat):Int)) (v:=.func (.func (58+3)) #[.pointer (some ⟨gd,0,none⟩)] #[]) hm hd rfl rfl rfl rfl underlying108 kd5 (A3f (by decide)) (A31 (by decide)) A42 ?_);clear hm;intro w hm;replace hm:Own _ _ _ (IK _ (mx gd 4)::_):=hm)
  |(refine Ad rfl (Bj (xs:=mx gd 4) (k:=.int .u8 ((4+2:Nat):Int)) (v:=.func (.func (58+4)) #[.pointer (some ⟨gd,0,none⟩)] #[]) hm hd rfl rfl rfl rfl underlying108 kd5 (A3f (by decide)) (A31 (by decide)) A42 ?_);clear hm;intro w hm;replace hm:Own _ _ _ (IK _ (mx gd 5)::_):=hm))
 go_loopw [] (fun wr=>∃ n,StN I w0 (IK r (mx gd 5)::ss) wr n) (fun wr=>Po (StN I w0 (IK r (mx gd 5)::ss) wr))
 case atStart=>exact ⟨n0,_,hI0,hm⟩
 case round =>
  clear hm hI0;obtain ⟨n1,hn1⟩:=hrel;have hn:=YV hn1;clear hn1;obtain ⟨R,hI,hm⟩:=hn;obtain ⟨bud,md,pa,sv,m,p,q,came,bv,st,told,all,e,RR,rfl⟩:=HI _ _ hI;by_cases he:e=0
  ·subst he
   go_upto_region 8 with (first
   |(with_reducible refine wl 25 0 hm ?_)
   |(go_at_call 63;have _t:=hm;refine (HN.out _ _ _ _ _ _ _ _ _ _ _ _ _ _ _ _ hI hm).mono ?_;clear _t hm;rintro x w1 (⟨b,R2,rfl,hJ,hm⟩|⟨rfl,hI2,hm⟩)))
   ·refine b_r (results_tmp3 rfl _ _ _) rfl ?_;exact ⟨.byte b,_,rfl,hJ,hm.J9⟩
   ·skip
    refine NM (S:=fun W=>AA W gd (DRw bud md pa (.pointer (some ⟨gr,0,none⟩)) (.pointer (some ⟨gp,0,none⟩)) sv m p q came bv st told all 0)) hm (fun W h=>h.row 0 rfl) 10 (.rds [(0,false),(1,false),(2,false),(3,true),(4,false),(5,false),(6,false),(7,true)] (.two 8 (.one 9 (.brk 10 11 .done)) 9 (.one 8 (.brk 10 11 .done)))) rfl (by kernel_rfl) rfl (by kernel_rfl) (fun _ _ d _ _ h=>by cases d<;>exact h) ?_;clear hm;intro w hm;simp only [KT.rds]
    iterate 3 refine kq ?_
    refine km (fun W hm=>Aa rfl rfl hm (ot rfl) rfl) ?_
    iterate 3 refine kq ?_
    refine km (fun W hm=>Aa rfl rfl hm (ot rfl) rfl) ?_;refine au ?_ ?_
    focus
     refine DJ rfl rfl (fun K hK=>?_);go_simp;refine (HS.out _ _ _ _ _ _ _ _ _ _ _ _ _ _ _ [] _ hI2 hm).mono ?_;rintro e1 w1 ⟨kd,n3,m4,p4,s4,v,e3,RR3,rfl,hv,hX,hm⟩;have HX:=h_ hX;have HV:=h_ hv;clear hX hv;simp only [s2] at hm;refine hK _ _ ⟨_,fun _ h=>h,(by exact hm.row 0 rfl),?_⟩;clear hK K;refine Bo rfl rfl (Dl hm rfl BX ?_);clear hm;intro w g8 hm;refine ⟨_,fun _ h=>h,(by exact hm.row 1 rfl),?_⟩
     try simp only [Act.put,s3]
     (refine Em rfl rfl (Aw 0 hm rfl rfl (Ac rfl) rfl (Dw _ _ _ _ _ _ _) (yS _ _ _ _ _ _ _ _ _ _ _ _ _ _) (Ak _ _ _ _ _ HV.out _) ?_))
     clear hm;intro w hm
     try simp only [puts,s2,List.set,List.eraseIdx,s3] at hm
     refine ⟨fun W=>Own _ W _ _,hm,?_⟩
     try simp only [Act.put,s3]
     refine Ba ?_;go_simp
    rotate_left
    focus
     refine Bo rfl rfl (Dl hm rfl BX ?_);clear hm;intro w g8 hm;refine ⟨_,fun _ h=>h,(by exact hm.row 1 rfl),?_⟩
     try simp only [Act.put,s3]
     refine DJ rfl rfl (fun K hK=>?_);go_simp;refine (HS.out _ _ _ _ _ _ _ _ _ _ _ _ _ _ _ [_] _ hI2 hm).mono ?_;rintro e1 w1 ⟨kd,n3,m4,p4,s4,v,e3,RR3,rfl,hv,hX,hm⟩;have HX:=h_ hX;have HV:=h_ hv;clear hX hv;simp only [s2] at hm;refine hK _ _ ⟨_,fun _ h=>h,(by exact hm.row 1 rfl),?_⟩;clear hK K
     (refine Em rfl rfl (Aw 0 hm rfl rfl (Ac rfl) rfl (Dw _ _ _ _ _ _ _) (yS _ _ _ _ _ _ _ _ _ _ _ _ _ _) (Ak _ _ _ _ _ HV.out _) ?_))
     clear hm;intro w hm
     try simp only [puts,s2,List.set,List.eraseIdx,s3] at hm
     refine ⟨fun W=>Own _ W _ _,hm,?_⟩
     try simp only [Act.put,s3]
     refine Ba ?_;go_simp
    all_goals
     have hkd:=HX.out.kind;have hkk:kd=1\/kd=7\/kd=8\/kd=2\/kd=3\/kd=4\/kd=5\/kd=6:=by omega
     clear hkd;rcases hkk with rfl|rfl|rfl|rfl|rfl|rfl|rfl|rfl
     ·go_wp2_with (with_reducible refine wl 5 0 hm ?_ (hv:=c_z (EVk _ _ _ _ _ _ _)))
      refine b_r (results_tmp3 rfl _ _ _) rfl ?_;exact ⟨.need,_,rfl,HX.out.need rfl,hm.dropRow.J9⟩
     ·go_wp2_with (with_reducible refine wl 5 0 hm ?_ (hv:=c_z (EVk _ _ _ _ _ _ _)))
      refine b_r (results_tmp3 rfl _ _ _) rfl ?_;exact ⟨.fin,_,rfl,HX.out.fin rfl,hm.dropRow.J9⟩
     ·obtain ⟨j,hjn,hIj⟩:=HX.out.bad rfl;have HJN:=h_ hjn;have HIJ:=h_ hIj;clear hjn hIj
      go_wp2_with (first
      |(with_reducible first|(refine wl 5 0 hm ?_ (hv:=c_z (EVk _ _ _ _ _ _ _)))|(refine wl 25 0 hm ?_ (hv:=c_z (EVe _ _ _ _ _ _ _))))
      |(with_reducible refine gSt (t:=25) ?_;((refine Ad rfl (AZ 1 hm rfl rfl (Ac rfl) rfl (ot rfl) (by simp) rfl rfl rfl ?_)));clear hm;intro w hm;try simp only [puts,s2,List.set,List.eraseIdx,s3] at hm))
      have hjn:=HJN.out;have hIj:=HIJ.out;exact xdd
     all_goals
      go_wp2_with (first
      |(with_reducible first|(refine wl 5 0 hm ?_ (hv:=c_z (EVk _ _ _ _ _ _ _)))|(refine wla 76 0 hm ?_))
      |(with_reducible refine gLk ?_;(first|(refine A8 rfl (Ez (k:=.int .u8 ((0+2:Nat):Int)) (v:=.func (.func (58+0)) #[.pointer (some ⟨gd,0,none⟩)] #[]) 0 hm rfl rfl rfl rfl underlying108 kd5 (A3f (by decide)) (A31 (by decide)) ⟨_,A3s.2 ⟨0,by decide,rfl⟩,rfl⟩ (A41 (k:=0))) ?_)|(refine A8 rfl (Ez (k:=.int .u8 ((1+2:Nat):Int)) (v:=.func (.func (58+1)) #[.pointer (some ⟨gd,0,none⟩)] #[]) 0 hm rfl rfl rfl rfl underlying108 kd5 (A3f (by decide)) (A31 (by decide)) ⟨_,A3s.2 ⟨1,by decide,rfl⟩,rfl⟩ (A41 (k:=1))) ?_)|(refine A8 rfl (Ez (k:=.int .u8 ((2+2:Nat):Int)) (v:=.func (.func (58+2)) #[.pointer (some ⟨gd,0,none⟩)] #[]) 0 hm rfl rfl rfl rfl underlying108 kd5 (A3f (by decide)) (A31 (by decide)) ⟨_,A3s.2 ⟨2,by decide,rfl⟩,rfl⟩ (A41 (k:=2))) ?_)|(refine A8 rfl (Ez (k:=.int .u8 ((3+2:Nat):Int)) (v:=.func (.func (58+3)) #[.pointer (some ⟨gd,0,none⟩)] #[]) 0 hm rfl rfl rfl rfl underlying108 kd5 (A3f (by decide)) (A31 (by decide)) ⟨_,A3s.2 ⟨3,by decide,rfl⟩,rfl⟩ (A41 (k:=3))) ?_)|(refine A8 rfl (Ez (k:=.int .u8 ((4+2:Nat):Int)) (v:=.func (.func (58+4)) #[.pointer (some ⟨gd,0,none⟩)] #[]) 0 hm rfl rfl rfl rfl underlying108 kd5 (A3f (by decide)) (A31 (by decide)) ⟨_,A3s.2 ⟨4,by decide,rfl⟩,rfl⟩ (A41 (k:=4))) ?_)))
      |((first|go_at_call 58|go_at_call 59|go_at_call 60|go_at_call 61|go_at_call 62);have _t:=hm;refine (HX.out.act (by decide) (by decide) _ _ _ hm).mono ?_;clear _t hm;rintro x w1 ⟨er,bud2,md2,pa2,sv2,m2,p2,q2,came2,bv2,st2,told2,all2,RR2,rfl,hm,hj⟩)
      |(with_reducible refine gSt (t:=25) ?_;((refine Ad rfl (AZ 1 hm rfl rfl (Ac rfl) rfl (ot rfl) (by simp) rfl rfl rfl ?_)));clear hm;intro w hm;try simp only [puts,s2,List.set,List.eraseIdx,s3] at hm))
      obtain ⟨j,hjn,hIj⟩:=hj;exact xdd
  ·have q1:(e == 0)=false:=by simpa using he
   go_upto_region 17 with (with_reducible refine wl 25 0 hm ?_)
   refine rO hm 7 (.rds [(0,false),(1,false),(2,false),(3,true),(4,false),(5,false),(6,false)] .done) ?_;clear hm;intro w hm;simp only [KT.rds]
   iterate 3 refine kq ?_
   refine km (fun W hm=>ld 0 hm rfl rfl rfl (ot rfl) rfl) ?_
   iterate 3 refine kq ?_
   refine Ba ?_;go_simp;go_wp2;refine b_r (results_tmp3 rfl _ _ _) rfl ?_;exact ⟨.bad e,_,rfl,HE _ _ _ _ _ _ _ _ _ _ _ _ _ _ _ he hI,hm.J9⟩
variable {en:Bool} {c2:Cf} {N all' bud' came came' e e' ec m m' md md' p p' q q' st' told':Int} {col:I_} {bud gd gp gr:Nat} {A D P Z rs:Rws} {bv bv' pa' pp pp' pr pr' sv sv':Value}
theorem DI.ev {en:Bool} {s:Dk} {c2:Cf} {ev:Evt} (h:DI s) (he:s.e=0) (hN:NxE en s.c ev c2):∃ N,(∀ N' mo,s.hd=some (N',mo)->N'=N)/\(s.hd=none->s.c.s.ph=0)/\(∀ N' mo,s.hd=some (N',mo)->s.c.s.ph ≠ 0)/\A6d s.c.s.ph s.c.ro c2 N s.m s.p s.q s.out.length ev:=by
 have hh:=h.hd he;cases hd:s.hd with
|none =>
  rw [hd] at hh;exact ⟨0,fun _ _ h=>(by cases h),fun _=>hh.1,fun _ _ h=>(by cases h),hN.ei (hh.2 0 s.m s.p s.q s.out.length)⟩
|some o =>
  obtain ⟨N,mo⟩:=o;rw [hd] at hh;exact ⟨N,fun _ _ h=>(by cases h;rfl),fun h=>(by cases h),fun _ _ _=>hh.1,hN.ei hh.2⟩
theorem DI.A46 {s:Dk} (h0:s.hd=none->s.c.s.ph=0) (hN:∀ N' mo,s.hd=some (N',mo)->N'=N) (hp:s.c.s.ph ≠ 0):∃ mo,s.hd=some (N,mo):=by
 cases hd:s.hd with
|none=>exact absurd (h0 hd) hp
|some o =>
  obtain ⟨N',mo⟩:=o;have:=hN N' mo hd;subst this;exact ⟨mo,rfl⟩
theorem DI.A8l {s:Dk} (h1:∀ N' mo,s.hd=some (N',mo)->s.c.s.ph ≠ 0) (hp:s.c.s.ph=0):s.hd=none:=by
 cases hd:s.hd with
|none=>rfl
|some o=>exact absurd hp (h1 o.1 o.2 hd)
theorem DI.bad {s:Dk} (h:s.e ≠ 0):DI s:=⟨fun h'=>absurd h' h,fun h'=>absurd h' h⟩
theorem A8u (s:Dk):s.d<=65536:=by
 rw [Dk.d];split
 ·rw [Pol.dist];split
  ·decide
  ·split<;>decide
 ·decide
theorem A5C {ix d:Nat} (h1:1<=col.length) (h2:col.length<=65536) (hd:d<=65536) (hv:A30 col ix col.length 0=true):WkB ⟨col,ix,d,0,0,A7g col ix d+A7g col ix d⟩:=by
 have hb:=A39 (col:=col) (ix:=ix) hd col.length 0;refine ⟨h1,h2,?_,hd,hv,?_⟩
 ·show 0<=A7g col ix d+A7g col ix d;rw [A7h];omega
 ·show A7g col ix d+A7g col ix d+rco col ix d col.length 0<=40000000000;rw [A7h];omega
theorem DI.act {bud:Int} {en:Bool} {s:Dk} {c2:Cf} {ev:Evt} (h:DI s) (he:s.e=0) (hk:s.bk=none) (hN:NxE en s.c ev c2) (ha:ev.act=true) (hb:∀ e,ev=.bad e->e ≠ 0):DI (s.act bud c2 ev):=by
 obtain ⟨N,h1,h2,h3,hev⟩:=h.ev he hN;cases ev with
|head n =>
  rw [Dk.act];split
  ·exact ⟨fun _=>⟨by show c2.s.ph ≠ 0;rw [hev.2.1];decide,hev.2.2.2.2.2 _ _ _ _⟩,fun _ w hw=>by simp only [hk] at hw;cases hw⟩
  ·rename_i hne;exact DI.bad hne
|block k a b =>
  obtain ⟨mo,hd⟩:=DI.A46 h2 h1 (by rw [hev.1];decide);refine ⟨fun _=>?_,fun _ w hw=>by simp only [Dk.act,hk] at hw;cases hw⟩;simp only [Dk.act,hd];exact ⟨by rw [hev.2.1];decide,hev.2.2.2.1⟩
|bytes t =>
  obtain ⟨mo,hd⟩:=DI.A46 h2 h1 (by rw [hev.1];decide);refine ⟨fun _=>?_,fun _ w hw=>by simp only [Dk.act,hk] at hw;cases hw⟩;simp only [Dk.act,hd];refine ⟨by rw [hev.2.1];decide,?_⟩;have:=hev.2.2.2.2.2.2;rw [List.length_append];push_cast;exact this
|U5 k a b =>
  obtain ⟨mo,hd⟩:=DI.A46 h2 h1 (by rw [hev.1];decide);obtain ⟨_,e2,_,hg,⟨_,n1,n2,_,_,_,m1,m2,p1,p2,_⟩,hE⟩:=hev;simp only [Dk.act];rw [Dk.ends];split
  ·split
   ·refine ⟨fun _=>?_,fun _ w hw=>?_⟩
    ·simp only [hd];exact ⟨by rw [e2];decide,hE⟩
    ·cases hw;exact ⟨hg,A5C (by omega) (by omega) (A8u s) (by assumption),e2⟩
   ·exact DI.bad (show (250:Int) ≠ 0 by decide)
  ·exact DI.bad (show (170:Int) ≠ 0 by decide)
|tail q =>
  obtain ⟨mo,hd⟩:=DI.A46 h2 h1 (by rw [hev.1];decide);rw [Dk.act];split
  ·refine ⟨fun _=>?_,fun _ w hw=>by simp only [hk] at hw;cases hw⟩;simp only [hd];exact ⟨by rw [hev.2.1];decide,hev.2.2.2.2.2⟩
  ·exact DI.bad (show (260:Int) ≠ 0 by decide)
|bad e=>exact DI.bad (hb e rfl)
|fin=>cases ha
|need=>cases ha
theorem DI.need {s:Dk} (h:DI s) (he:s.e=0) (hk:s.bk=none) (hN:NxE en s.c .need c2):DI { s with c:=c2 }:=by
 have hh:=h.hd he;refine ⟨fun _=>?_,fun _ w hw=>by simp only [hk] at hw;cases hw⟩;cases hd:s.hd with
|none =>
  rw [hd] at hh;simp only [hd];exact ⟨by have:=hN.ei (hh.2 0 0 0 0 0);rw [this.1];exact hh.1,fun N m p q g=>(hN.ei (hh.2 N m p q g)).2.2⟩
|some o =>
  rw [hd] at hh;simp only [hd];exact ⟨by have:=hN.ei hh.2;rw [this.1];exact hh.1,(hN.ei hh.2).2.2⟩
theorem DI.fin {s:Dk} (h:DI s) (he:s.e=0) (hk:s.bk=none) (hN:NxE en s.c .fin c2):DI { s with c:=c2 }:=by
 obtain ⟨N,h1,h2,h3,hev⟩:=h.ev he hN;obtain ⟨mo,hd⟩:=DI.A46 h2 h1 (by rw [hev.1];decide);refine ⟨fun _=>?_,fun _ w hw=>by simp only [hk] at hw;cases hw⟩;simp only [hd];exact ⟨by rw [hev.2.1];decide,hev.2.2.2⟩
theorem DI.tell {s:Dk} {w:Wk} (h:DI s) (he:s.e=0) (hw:s.bk=some w):DI (s.tell w):=by
 have hh:=h.hd he;obtain ⟨b1,b2,b3⟩:=h.bk he w hw;rw [Dk.tell];split
 ·exact ⟨fun _=>hh,fun _ w' hw'=>by cases hw'⟩
 ·rename_i hne;refine ⟨fun _=>hh,fun _ w' hw'=>?_⟩;cases hw';have hk:=b2.k;exact ⟨b1,b2.step.2.2.2 (by omega),b3⟩
def PRw (gp gr F:Nat) (en:Bool) (c:Cf) (P:Rws):Prop:=∀ rs,Rel gp gr F en rs c (P++rs)
def A3t (s:Dk):Nat:=if s.e=0 then s.c.mu+1 else 0
def A3l (bud gd gr gp F:Nat) (en:Bool) (rs:Rws) (s:Dk) (R:Rws):Prop:=∃ D P,R=D++(P++rs)/\PRw gp gr F en s.c P/\A7k bud gd gr gp s s.e D/\DI s
theorem DR_e (bud md:Int) (pa pr pp sv:Value) (m p q came:Int) (bv:Value) (st told all e x:Int):DRw bud md pa pr pp sv m p q came bv st told all x=(DRw bud md pa pr pp sv m p q came bv st told all e).setIfInBounds 14 (.int .i64 x):=rfl
theorem A4X {bud:Int} {pa:Value} {st told all:Int} (h:DRw bud md pa pr pp sv m p q came bv st told all e=DRw bud' md' pa' pr' pp' sv' m' p' q' came' bv' st' told' all' e'):e=e'/\∀ x,DRw bud md pa pr pp sv m p q came bv st told all x=DRw bud' md' pa' pr' pp' sv' m' p' q' came' bv' st' told' all' x:=by
 refine ⟨?_,fun x=>?_⟩
 ·have:=congrArg (fun a:A_=>a[14]?) h;simpa [DRw] using this
 ·rw [DR_e _ _ _ _ _ _ _ _ _ _ _ _ _ _ e x,h,<- DR_e]
theorem A7k.setE {s:Dk} (h:A7k bud gd gr gp s ec D):∃ (md:Int) (pa sv:Value) (bv:Value) (RR:Rws),D=(gd,DRw bud md pa (.pointer (some ⟨gr,0,none⟩)) (.pointer (some ⟨gp,0,none⟩)) sv s.m s.p s.q s.out.length bv s.st s.told s.all ec)::RR/\∀ x,A7k bud gd gr gp s x ((gd,DRw bud md pa (.pointer (some ⟨gr,0,none⟩)) (.pointer (some ⟨gp,0,none⟩)) sv s.m s.p s.q s.out.length bv s.st s.told s.all x)::RR):=by
 obtain ⟨ga,gx,n,mk,l,md,live,peak,sv,bv,S,X,h1,h2,h3,h4,h5,rfl,h6⟩:=h;exact ⟨_,_,_,_,_,rfl,fun x=>⟨ga,gx,n,mk,l,md,live,peak,sv,bv,S,X,h1,h2,h3,h4,h5,rfl,h6⟩⟩
theorem A7k.keep {s s2:Dk} (h:A7k bud gd gr gp s ec D) (hm:s2.m=s.m) (hp:s2.p=s.p) (hq:s2.q=s.q) (ho:s2.out=s.out) (hst:s2.st=s.st) (ht:s2.told=s.told) (ha:s2.all=s.all) (hh:s2.hd=s.hd) (hb:s2.bk=s.bk) (he:s2.e=0->s.e=0):A7k bud gd gr gp s2 ec D:=by
 obtain ⟨ga,gx,n,mk,l,md,live,peak,sv,bv,S,X,h1,h2,h3,h4,h5,rfl,h6⟩:=h;refine ⟨ga,gx,n,mk,l,md,live,peak,sv,bv,S,X,h1,h2,h3,h4,h5,by rw [hm,hp,hq,ho,hst,ht,ha],⟨by rw [Dk.mdz,hh];exact h6.1.1,fun h=>h6.1.2 (hb ▸ h)⟩,fun h0=>?_⟩;obtain ⟨a,b⟩:=h6.2 (he h0);exact ⟨by rw [HdR,hh,ho];exact a,by rw [BkR,hb,hm];exact b⟩
theorem A7k.eZ {s:Dk} (h:A7k bud gd gr gp s 0 D) {s0:Dk} (he:s0.e=0) (hs:s.e=s0.e:=by rfl):A7k bud gd gr gp s s.e D:=by
 rw [hs,he];exact h
theorem A6Z (bud:Int) (s:Dk) (c2:Cf) (ev:Evt):(s.act bud c2 ev).c=c2:=by
 cases ev with
|head n=>rw [Dk.act];split<;>rfl
|tail q=>rw [Dk.act];split<;>rfl
|U5 k a b =>
  simp only [Dk.act];rw [Dk.ends];split
  ·split<;>rfl
  ·rfl
|block k a b=>rfl
|bytes t=>rfl
|bad e=>rfl
|fin=>rfl
|need=>rfl
theorem A5O {X:Rws} (_:Z=Z):(P++(A++(D++rs))).Perm (A++(D++(P++rs))):=by
 have h:∀ (U V W:Rws),(U++(V++W)).Perm (V++(U++W)):=fun U V W=>by
  exact xds
 exact (h P A _).trans ((h P D rs).append_left A)
theorem A5a {X:Rws}:(A++(D++(X++(P++rs)))).Perm (X++(P++(A++(D++rs)))):=by
 have h:∀ (U V W:Rws),(U++(V++W)).Perm (V++(U++W)):=fun U V W=>by
  exact xds
 have h1:(A++(D++(X++(P++rs)))).Perm (X++(A++(D++(P++rs)))):=((h D X _).append_left A).trans (h A X _);have h2:(A++(D++(P++rs))).Perm (P++(A++(D++rs))):=((h D P _).append_left A).trans (h A P _);exact h1.trans (h2.append_left X)
variable {all' bu' came came' e e1 kd m m' m1 md md' md0 n1 p p' p1 q q' s1' st' told':Int} {ss:List Sl} {n:Nat} {P RR RR0:Rws} {bv bv' bv0 pa' pa0 pp pr sv sv' sv0:Value} {w:World}
section
variable {bud gd gr gp F:Nat} {en:Bool} {s s1:Dk} {c2:Cf} {w0:World} {rs:Rws}
def NI (bud gd gr gp F:Nat) (en:Bool) (rs:Rws) (s s1:Dk) (R:Rws):Prop:=A3l bud gd gr gp F en rs s1 R/\(∀ r s2,DN bud en s1 r s2->DN bud en s r s2)/\s1.told=s.told/\(s1.e=0->s1.st=s.st)
theorem A3l.row {R:Rws} (h:A3l bud gd gr gp F en rs s R):∃ (bud md:Int) (pa sv:Value) (m p q came:Int) (bv:Value) (st told all e:Int) (RR:Rws),R=(gd,DRw bud md pa (.pointer (some ⟨gr,0,none⟩)) (.pointer (some ⟨gp,0,none⟩)) sv m p q came bv st told all e)::RR:=by
 obtain ⟨D,P,rfl,_,hD,_⟩:=h;obtain ⟨md,pa,sv,bv,RR,rfl⟩:=hD.row;exact ⟨_,_,_,_,_,_,_,_,_,_,_,_,_,_,rfl⟩
theorem A3l.e_eq {bu:Int} {pa:Value} {st told all:Int} (h:A3l bud gd gr gp F en rs s ((gd,DRw bu md pa pr pp sv m p q came bv st told all e)::RR)):e=s.e:=by
 obtain ⟨D,P,hR,_,hD,_⟩:=h;obtain ⟨md',pa',sv',bv',RR',rfl⟩:=hD.row;simp only [List.cons_append,List.cons.injEq,Prod.mk.injEq,true_and] at hR;exact (A4X hR.1).1
theorem nb_ev {X:Rws} {v:Value} {ev:Evt} (b1:1<=bud) (b2:bud<=1048576) (hs0:0<=s.st) (hs1:s.st<=1000000000000000) (hP:PRw gp gr F en c2 P) (hD:A7k bud gd gr gp s1 0 ((gd,DRw bud md0 pa0 (.pointer (some ⟨gr,0,none⟩)) (.pointer (some ⟨gp,0,none⟩)) sv0 s1.m s1.p s1.q s1.out.length bv0 s1.st s1.told s1.all 0)::RR0)) (hDset:∀ x,A7k bud gd gr gp s1 x ((gd,DRw bud md0 pa0 (.pointer (some ⟨gr,0,none⟩)) (.pointer (some ⟨gp,0,none⟩)) sv0 s1.m s1.p s1.q s1.out.length bv0 s1.st s1.told s1.all x)::RR0)) (hI:DI s1) (he:s1.e=0) (hk:s1.bk=none) (hN:NxE en s1.c ev c2) (hE:yR X ev kd n1 m1 p1 s1' v e1) (hdn:∀ r s2,DN bud en s1 r s2->DN bud en s r s2) (ht:s1.told=s.told) (hst:s1.st=s.st) :
  A6A (fun n R=>∃ s',NI bud gd gr gp F en rs s s' R/\n=A3t s') (fun r R=>∃ s2,A3l bud gd gr gp F en rs s2 R/\DN bud en s r s2) gd gr gp w0 (A3t s1) kd n1 m1 p1 s1' v e1 bud md0 pa0 sv0 s1.m s1.p s1.q s1.out.length bv0 s1.st s1.told s1.all (RR0++(X++(P++rs))):=by
 have hmeas:A3t s1=s1.c.mu+1:=if_pos he
 have hlt:∀ s2:Dk,s2.c=c2->ev.last=false\/s2.e ≠ 0->A3t s2 < A3t s1:=fun s2 h1 h2=>by
  rw [hmeas,A3t];split
  ·rename_i h0;rcases h2 with h2|h2
   ·have:=hN.mu h2;rw [h1];omega
   ·exact absurd h0 h2
  ·omega
 have hkd:1<=kd/\kd<=8:=by cases ev<;>obtain ⟨rfl,_⟩:=hE<;>omega
 refine ⟨hkd,?_,?_,?_,?_⟩
 ·intro h
  obtain ⟨rfl,hX⟩:ev=.need/\X=[]:=by
   exact xe6
  subst hX;exact ⟨{ s1 with c:=c2 },⟨_,P,rfl,hP,(hD.keep rfl rfl rfl rfl rfl rfl rfl rfl rfl id).eZ he,hI.need he hk hN⟩,hdn _ _ (.need he hk hN)⟩
 ·intro h
  obtain ⟨rfl,hX⟩:ev=.fin/\X=[]:=by
   exact xe6
  subst hX;exact ⟨{ s1 with c:=c2 },⟨_,P,rfl,hP,(hD.keep rfl rfl rfl rfl rfl rfl rfl rfl rfl id).eZ he,hI.fin he hk hN⟩,hdn _ _ (.fin he hk hN)⟩
 ·intro h
  obtain ⟨rfl,h0,hX⟩:ev=.bad e1/\e1 ≠ 0/\X=[]:=by
   cases ev<;>obtain ⟨h1,h2⟩:=hE<;>first|(obtain ⟨rfl,h3,h4⟩:=h2;exact ⟨rfl,h3,h4⟩)|omega
  subst hX;exact ⟨_,hlt { s1 with c:=c2,e:=e1 } rfl (.inr h0),{ s1 with c:=c2,e:=e1 },⟨⟨_,P,rfl,hP,(hDset e1).keep rfl rfl rfl rfl rfl rfl rfl rfl rfl (fun h=>absurd h h0),DI.bad h0⟩,fun r s2 h=>hdn _ _ (.act he hk hN rfl (fun e h=>by cases h;exact h0) h),ht,fun h=>absurd h h0⟩,rfl⟩
 ·intro ha hb W f ss' hm;have hact:ev.act=true:=by cases ev<;>obtain ⟨rfl,_⟩:=hE<;>first|rfl|omega
  have hnl:ev.last=false:=by cases ev<;>obtain ⟨rfl,_⟩:=hE<;>first|rfl|omega
  have hnb:∀ e,ev=.bad e->e ≠ 0:=fun e h=>by subst h;obtain ⟨rfl,_⟩:=hE;omega
  obtain ⟨N,q1,q2,q3,hev⟩:=hI.ev he hN
  have fin:∀ (fn:Nat) (s2:Dk),s2=s1.act bud c2 ev->(s2.e=0->s2.st=s.st)->s2.told=s.told->Calls prog fn #[.pointer (some ⟨gd,0,none⟩),.agg (EVT kd n1 m1 p1 s1' v e1)] W (fun x w'=>∃ D2,x=.returned (.int .i64 s2.e)/\A7k bud gd gr gp s2 0 D2/\Own w0 w' (f::(D2++(X++(P++rs)))) ss')->Calls prog fn #[.pointer (some ⟨gd,0,none⟩),.agg (EVT kd n1 m1 p1 s1' v e1)] W fun x w'=>∃ (er:Int) (bud' md:Int) (pa sv:Value) (m p q came:Int) (bv:Value) (st told all:Int) (RR:Rws),x=.returned (.int .i64 er)/\Own w0 w' (f::(gd,DRw bud' md pa (.pointer (some ⟨gr,0,none⟩)) (.pointer (some ⟨gp,0,none⟩)) sv m p q came bv st told all 0)::RR) ss'/\∃ j,j < A3t s1/\∃ s',NI bud gd gr gp F en rs s s' ((gd,DRw bud' md pa (.pointer (some ⟨gr,0,none⟩)) (.pointer (some ⟨gp,0,none⟩)) sv m p q came bv st told all er)::RR)/\j=A3t s':=by
   intro fn s2 hs2 hst2 ht2 hC;refine hC.mono ?_;rintro x w' ⟨D2,rfl,hD2,hm2⟩;obtain ⟨md,pa,sv,bv,RR,rfl,hset⟩:=hD2.setE;have hm3:=hm2.sub (rs':=f::((gd,DRw bud md pa (.pointer (some ⟨gr,0,none⟩)) (.pointer (some ⟨gp,0,none⟩)) sv s2.m s2.p s2.q s2.out.length bv s2.st s2.told s2.all 0)::(RR++(P++rs)))) (List.Sublist.cons_cons _ (List.Sublist.cons_cons _ ((List.sublist_append_right X _).append_left RR))) (List.Sublist.refl _);refine ⟨_,_,_,_,_,_,_,_,_,_,_,_,_,_,rfl,hm3,_,hlt s2 (by rw [hs2];exact A6Z _ _ _ _) (.inl hnl),s2,⟨⟨_,P,rfl,by rw [show s2.c=c2 by rw [hs2];exact A6Z _ _ _ _];exact hP,hset s2.e,by rw [hs2];exact hI.act he hk hN hact hnb⟩,fun r s3 h=>hdn _ _ (.act he hk hN hact hnb (by rw [<- hs2];exact h)),ht2,hst2⟩,rfl⟩
  cases ev with
 |head n =>
   obtain ⟨rfl,rfl,hX⟩:=hE;subst hX;have hd:=DI.A8l q3 hev.1;obtain ⟨n',hn'⟩:∃ n':Nat,n1=n':=⟨n1.toNat,by have:=hev.2.2.2.1;omega⟩;subst hn';have hn1:=hev.2.2.2.1;have hn2:=hev.2.2.2.2.1;by_cases hp:(Pol.pk bud n' 2).2=0
   ·refine fin 58 { s1 with c:=c2,hd:=some ((n':Int),(Pol.pk bud n' 2).1) } (by rw [Dk.act,if_pos hp]) (fun _=>hst) ht ?_;refine (A5j (c2:=c2) hD he hk hd (by omega) (by omega) b1 b2 hp hm).mono ?_;rintro x w' ⟨D2,rfl,hD2,hm2⟩;exact ⟨D2,by rw [show ({ s1 with c:=c2,hd:=some ((n':Int),(Pol.pk bud n' 2).1) }:Dk).e=s1.e from rfl,he],hD2,hm2⟩
   ·refine fin 58 { s1 with c:=c2,e:=(Pol.pk bud n' 2).2 } (by rw [Dk.act,if_neg hp]) (fun h=>absurd h hp) ht ?_;refine (A4N hD hp he hm).mono ?_;rintro x w' ⟨rfl,hm2⟩;exact ⟨_,rfl,hD.keep rfl rfl rfl rfl rfl rfl rfl rfl rfl (fun h=>absurd h hp),hm2⟩
 |block k a b =>
   obtain ⟨rfl,rfl,rfl,rfl,hX⟩:=hE;subst hX;refine fin 59 { s1 with c:=c2,m:=m1,p:=p1,q:=s1',out:=[] } rfl (fun _=>hst) ht ?_;refine (A6t (c2:=c2) hD he hk hm).mono ?_;rintro x w' ⟨D2,rfl,hD2,hm2⟩;exact ⟨D2,by rw [show ({ s1 with c:=c2,m:=m1,p:=p1,q:=s1',out:=[] }:Dk).e=s1.e from rfl,he],hD2,hm2⟩
 |bytes T =>
   obtain ⟨rfl,hT0,hX⟩:=hE;obtain ⟨mo,hd⟩:=DI.A46 q2 q1 (by rw [hev.1];decide);refine fin 60 { s1 with c:=c2,out:=s1.out++T } rfl (fun _=>hst) ht ?_;refine (A6s (c2:=c2) hD he hk hd hT0 hev.2.2.2.2.2.1 (by have:=hev.2.2.2.1;have:=hev.2.2.2.2.1;omega) hX b2 hm).mono ?_;rintro x w' ⟨D2,rfl,hD2,hm2⟩;exact ⟨D2,by rw [show ({ s1 with c:=c2,out:=s1.out++T }:Dk).e=s1.e from rfl,he],hD2,hm2⟩
 |U5 k a b =>
   obtain ⟨rfl,hX⟩:=hE;subst hX;obtain ⟨mo,hd⟩:=DI.A46 q2 q1 (by rw [hev.1];decide);obtain ⟨_,_,_,hg,⟨_,z1,z2,_,_,_,y1,y2,x1,x2,_⟩,_⟩:=hev;refine fin 61 (s1.ends c2) rfl (fun h=>?_) ?_ (A6Q (c2:=c2) hD he hk hd (by omega) (by omega) x1 x2 (by omega) b2 (by omega) (by omega) hm)
   ·revert h;rw [Dk.ends];split
    ·split
     ·exact fun _=>hst
     ·exact fun h=>absurd h (show ¬ (250:Int)=0 by decide)
    ·exact fun h=>absurd h (show ¬ (170:Int)=0 by decide)
   ·rw [Dk.ends];split
    ·split
     ·exact ht
     ·exact ht
    ·exact ht
 |tail q =>
   obtain ⟨rfl,rfl,hX⟩:=hE;subst hX;by_cases hq:s1'=s1.all
   ·refine fin 62 { s1 with c:=c2 } (by rw [Dk.act,if_pos hq]) (fun _=>hst) ht ?_;refine (A5w hD hm).mono ?_;rintro x w' ⟨rfl,hm2⟩;exact ⟨_,by rw [if_pos hq,show ({ s1 with c:=c2 }:Dk).e=s1.e from rfl,he],hD.keep rfl rfl rfl rfl rfl rfl rfl rfl rfl id,hm2⟩
   ·refine fin 62 { s1 with c:=c2,e:=260 } (by rw [Dk.act,if_neg hq]) (fun h=>absurd h (show ¬ (260:Int)=0 by decide)) ht ?_;refine (A5w hD hm).mono ?_;rintro x w' ⟨rfl,hm2⟩;exact ⟨_,by rw [if_neg hq],hD.keep rfl rfl rfl rfl rfl rfl rfl rfl rfl (fun h=>absurd h (show ¬ (260:Int)=0 by decide)),hm2⟩
 |bad e=>cases hnl
 |fin=>cases hact
 |need=>cases hact
theorem A6A.congr {I:Nat->Rws->Prop} {J:Rsl->Rws->Prop} {s1:Int} {v:Value} {bu:Int} {pa:Value} {st told all:Int} (h:A6A I J gd gr gp w0 n kd n1 m1 p1 s1 v e1 bu' md' pa' sv' m' p' q' came' bv' st' told' all' RR) (he:∀ x,DRw bu md pa (.pointer (some ⟨gr,0,none⟩)) (.pointer (some ⟨gp,0,none⟩)) sv m p q came bv st told all x=DRw bu' md' pa' (.pointer (some ⟨gr,0,none⟩)) (.pointer (some ⟨gp,0,none⟩)) sv' m' p' q' came' bv' st' told' all' x):A6A I J gd gr gp w0 n kd n1 m1 p1 s1 v e1 bu md pa sv m p q came bv st told all RR :=
 ⟨h.kind,by rw [he];exact h.need,by rw [he];exact h.fin,by rw [he];exact h.bad,by rw [he];exact h.act⟩
theorem A3C {R:Rws} (b1:1<=bud) (b2:bud<=1048576) (h:A3l bud gd gr gp F en rs s R) (hm:Own w0 w R ss) (t0:0<=s.told) (t1:s.told<=1000000000000) (hs0:0<=s.st) (hs1:s.st<=1000000000000000):Calls prog 19 #[.pointer (some ⟨gd,0,none⟩)] w fun x w'=>∃ r s2 R2,x=.returned (Rsl.val r)/\DN bud en s r s2/\A3l bud gd gr gp F en rs s2 R2/\Own w0 w' R2 ss:=by
 refine (nbmap gd gr gp R w0 w ss hm (fun n R=>∃ s',NI bud gd gr gp F en rs s s' R/\n=A3t s') (fun n R=>∃ s',NI bud gd gr gp F en rs s s' R/\n=A3t s'/\s'.e=0/\s'.bk=none) (fun r R=>∃ s2,A3l bud gd gr gp F en rs s2 R/\DN bud en s r s2) (A3t s) ⟨s,⟨h,fun _ _ h=>h,rfl,fun _=>rfl⟩,rfl⟩ ?_ ?_ (h_ ?_) (h_ ?_)).mono ?_
 ·rintro n R ⟨s',⟨h,_⟩,_⟩;exact h.row
 ·rintro n bu md pa sv m p q came bv st told all e RR he ⟨s',⟨h,hdn,_⟩,_⟩;have:=h.e_eq;subst this;exact ⟨s',h,hdn _ _ (.err he)⟩
 ·rintro n bu md pa sv m p q came bv st told all RR W ss' ⟨s',⟨h,hdn,ht,hst⟩,hn⟩ hm;have he:=h.e_eq.symm;have h0:=h;obtain ⟨D,P,hR,hP,hD,hI⟩:=h;rw [hR] at hm;rw [he] at hD;have hst:=hst he;refine (A75 hD he hm (by omega) (by omega) (by omega) (by omega)).mono ?_;rintro x w' (⟨wk,D2,hbk,rfl,hD2,hm2⟩|⟨hbk,rfl,rfl⟩)
  ·refine .inl ⟨_,_,rfl,⟨s'.tell wk,⟨D2,P,rfl,?_,?_,hI.tell he hbk⟩,hdn _ _ (.byte he hbk)⟩,hm2⟩
   ·rw [show (s'.tell wk).c=s'.c by rw [Dk.tell];split<;>rfl];exact hP
   ·rw [show (s'.tell wk).e=0 by rw [Dk.tell];split<;>exact he];exact hD2
  ·exact .inr ⟨rfl,⟨s',⟨h0,hdn,ht,fun _=>hst⟩,hn,he,hbk⟩,by rw [hR];exact hm⟩
 ·rintro n bu md pa sv m p q came bv st told all RR W A ss' ⟨s',⟨⟨D,P,hR,hP,hD,hI⟩,hdn,ht,hst⟩,hn,he,hbk⟩ hm;rw [he] at hD;obtain ⟨md0,pa0,sv0,bv0,RR0,rfl,hDset⟩:=hD.setE;simp only [List.cons_append,List.cons.injEq,Prod.mk.injEq,true_and] at hR;have hx:=(A4X hR.1).2;rw [hR.1,hR.2] at hm;have hm2:Own w0 W (P++(A++(((gd,DRw bud md0 pa0 (.pointer (some ⟨gr,0,none⟩)) (.pointer (some ⟨gp,0,none⟩)) sv0 s'.m s'.p s'.q s'.out.length bv0 s'.st s'.told s'.all 0)::RR0)++rs))) ss':=hm.perm (A5O (Z:=[]) (X:=[]) rfl);refine (zH (hP _) hm2).mono ?_;rintro x w' ⟨kd,n1,m1,p1,s1',v,e1,ev,c2,X,R',rfl,hv,hN,hE,hRel,hm3⟩;obtain ⟨P2,rfl,hP2⟩:=hRel.split;have hm4:=hm3.perm (A5a (A:=A) (P:=P2) (rs:=rs) (X:=X) (D:=(gd,DRw bud md0 pa0 (.pointer (some ⟨gr,0,none⟩)) (.pointer (some ⟨gp,0,none⟩)) sv0 s'.m s'.p s'.q s'.out.length bv0 s'.st s'.told s'.all 0)::RR0))
  refine ⟨kd,n1,m1,p1,s1',v,e1,RR0++(X++(P2++rs)),rfl,hv,?_,by rw [hR.1];exact hm4⟩;rw [hn];exact (nb_ev b1 b2 hs0 hs1 hP2 hD hDset hI he hbk hN hE hdn ht (hst he)).congr hx
 ·rintro x w' ⟨r,R2,rfl,⟨s2,h2,hdn⟩,hm2⟩;exact ⟨r,s2,R2,rfl,hdn,h2,hm2⟩
end
variable {en:Bool} {c c2:Cf} {N bud g m p q:Int} {col l:I_} {F:Nat}
def Dk.be (s:Dk):Nat:=(match s.bk with
|none=>0
|some w=>w.col.length - w.k)+65536 * s.c.ro
def Dk.fu (s:Dk):Nat:=(match s.bk with
|none=>0
|some _=>1)+s.c.ro
def Rsl.isB:Rsl->Bool
|.byte _=>true
|_=>false
structure Cnt (en:Bool) (s:Dk) (r:Rsl) (s2:Dk):Prop where
 t1:r.isB=true->s2.told=s.told+1/\s2.be+1<=s.be
 t2:r.isB=false->s2.told=s.told/\s2.be<=s.be
 st0:0<=s.st->0<=s2.st
 st1:s2.st+40000000000 * s2.fu<=s.st+40000000000 * s.fu
 need:en=true->r ≠ .need
theorem A6g {ix d:Nat} (hd:d<=65536) (hn:col.length<=65536):0<=A7g col ix d/\A7g col ix d<=10000000000:=by
 have hb:=A39 (col:=col) (ix:=ix) hd col.length 0;rw [A7h];omega
theorem A6Y {s:Dk} {ev:Evt} (h:DI s) (he:s.e=0) (hk:s.bk=none) (hN:NxE en s.c ev c2) (ha:ev.act=true):(s.act bud c2 ev).told=s.told/\(s.act bud c2 ev).be<=s.be/\(0<=s.st->0<=(s.act bud c2 ev).st)/\(s.act bud c2 ev).st+40000000000 * (s.act bud c2 ev).fu<=s.st+40000000000 * s.fu:=by
 obtain ⟨N,h1,h2,h3,hev⟩:=h.ev he hN
 have plain:∀ s2:Dk,s2.c=c2->s2.bk=none->s2.told=s.told->s2.st=s.st->c2.ro<=s.c.ro->s2.told=s.told/\s2.be<=s.be/\(0<=s.st->0<=s2.st)/\s2.st+40000000000 * s2.fu<=s.st+40000000000 * s.fu:=fun s2 e1 e2 e3 e4 hr=>by
  simp only [Dk.be,Dk.fu,e1,e2,hk,e3,e4];exact ⟨by trivial,by omega,id,by omega⟩
 cases ev with
|head n=>rw [Dk.act];split<;>exact plain _ rfl hk rfl rfl hev.2.2.1
|block k a b=>exact plain _ rfl hk rfl rfl hev.2.2.1
|bytes t=>exact plain _ rfl hk rfl rfl hev.2.2.1
|tail q=>rw [Dk.act];split<;>exact plain _ rfl hk rfl rfl hev.2.2.1
|bad e=>exact plain _ rfl hk rfl rfl hev.2.1
|U5 k a b =>
  obtain ⟨_,e2,hro,hg,⟨_,n1,n2,_,_,_,m1,m2,p1,p2,_⟩,hE⟩:=hev;have hw:=A6g (col:=s.out) (ix:=s.p.toNat) (A8u s) (by omega);simp only [Dk.act];rw [Dk.ends];split
  ·split
   ·simp only [Dk.be,Dk.fu,hk];exact ⟨by trivial,by omega,id,by omega⟩
   ·exact xen
  ·exact xen
|fin=>cases ha
|need=>cases ha
theorem DN.cnt {s s2:Dk} {r:Rsl} (h:DN bud en s r s2) (hI:DI s):Cnt en s r s2:=by
 induction h with
|err h=>exact ⟨fun h=>(by cases h),fun _=>⟨rfl,Nat.le_refl _⟩,id,Int.le_refl _,fun _ h=>(by cases h)⟩
|byte he hb =>
  rename_i s w;obtain ⟨b1,b2,b3⟩:=hI.bk he w hb;have hk:=b2.k;obtain ⟨_,q0,q1,_⟩:=b2.step;refine ⟨fun _=>?_,(fun h=>by cases h),fun h0=>?_,?_,(fun _ h=>by cases h)⟩
  ·rw [Dk.tell];split
   ·refine ⟨rfl,?_⟩;simp only [Dk.be,hb];omega
   ·refine ⟨rfl,?_⟩;simp only [Dk.be,hb,Wk.next];omega
  ·rw [Dk.tell];split
   ·simp only;omega
   ·exact h0
  ·rw [Dk.tell];split
   ·exact xha
   ·exact xha
|need he hb hN =>
  rename_i s c2;obtain ⟨N,h1,h2,h3,hev⟩:=hI.ev he hN;have hr:=hev.2.1;refine ⟨(fun h=>by cases h),fun _=>⟨rfl,?_⟩,id,?_,fun hen _=>?_⟩
  ·simp only [Dk.be,hb];omega
  ·exact xha
  ·subst hen;exact hN.A6r rfl
|fin he hb hN =>
  rename_i s c2;obtain ⟨N,h1,h2,h3,hev⟩:=hI.ev he hN;have hr:=hev.2.2.1;refine ⟨(fun h=>by cases h),fun _=>⟨rfl,?_⟩,id,?_,(fun _ h=>by cases h)⟩
  ·simp only [Dk.be,hb];omega
  ·exact xha
|act he hb hN ha hz _ ih =>
  have hc:=A6Y (bud:=bud) hI he hb hN ha;have hi:=ih (hI.act he hb hN ha hz);exact ⟨fun h=>⟨by rw [(hi.t1 h).1,hc.1],by have:=(hi.t1 h).2;omega⟩,fun h=>⟨by rw [(hi.t2 h).1,hc.1],by have:=(hi.t2 h).2;omega⟩,fun h=>hi.st0 (hc.2.2.1 h),by have:=hi.st1;omega,hi.need⟩
structure Pay (F:Nat) (s:Dk):Prop where
 t0:0<=s.told
 t1:s.told+s.be<=65536 * F
 s0:0<=s.st
 s1:s.st+40000000000 * s.fu<=40000000000 * F
theorem Pay.next {s s2:Dk} {r:Rsl} (h:Pay F s) (hc:Cnt en s r s2):Pay F s2:=by
 obtain ⟨a,b,c,d⟩:=h;cases hr:r.isB with
|true =>
  obtain ⟨x,y⟩:=hc.t1 hr;exact xg9
|false =>
  obtain ⟨x,y⟩:=hc.t2 hr;exact xg9
def Dk.feed (s:Dk) (m:I_):Dk:={ s with c:={ s.c with R:=s.c.R++m } }
theorem Pay.feed {F:Nat} {s:Dk} (h:Pay F s) (m:I_):Pay (F+m.length) (s.feed m):=by
 have hr:(s.feed m).c.ro=s.c.ro+m.length:=by
  simp only [Dk.feed,Cf.ro,List.length_append];split<;>omega
 obtain ⟨a,b,c,d⟩:=h;refine ⟨a,?_,c,?_⟩
 ·have e:(s.feed m).be=s.be+65536 * m.length:=by unfold Dk.be;rw [hr,show (s.feed m).bk=s.bk from rfl];omega
  rw [e];show s.told+_<=_;omega
 ·have e:(s.feed m).fu=s.fu+m.length:=by unfold Dk.fu;rw [hr,show (s.feed m).bk=s.bk from rfl];omega
  rw [e];show s.st+_<=_;omega
theorem EI.feed (h:EI c N m p q g) (hl:Bytes l):EI { c with R:=c.R++l } N m p q g:=by
 obtain ⟨hb,hj,h⟩:=h;refine ⟨fun x hx=>(List.mem_append.1 hx).elim (hb x) (hl x),by simp only [List.length_append];omega,?_⟩;obtain ⟨s,R,j⟩:=c;cases s<;>exact h
theorem DI.feed {s:Dk} {l:I_} (h:DI s) (hl:Bytes l):DI (s.feed l):=by
 refine ⟨fun he=>?_,fun he w hw=>h.bk he w hw⟩;have hh:=h.hd he;cases hd:s.hd with
|none =>
  rw [hd] at hh;simp only [Dk.feed,hd];exact ⟨hh.1,fun N m p q g=>(hh.2 N m p q g).feed hl⟩
|some o =>
  rw [hd] at hh;simp only [Dk.feed,hd];exact ⟨hh.1,hh.2.feed hl⟩
end Go.Proofs.YtkpbhdhkdonghaaGreat

set_option linter.all false
namespace Go.Proofs.YtkpbhdhkdonghaaGreat
open Go Go.RowKit
variable {en:Bool} {c c2:Cf} {x:Int} {r:I_}
theorem A7R (l:I_) (ix:Nat):∀ (k r:Nat) (acc:I_),bwk l ix k r acc=if A30 l ix k r=true then some ((wtx l ix k r).reverse++acc) else none
|0,r,acc=>by
  rw [bwk,A30];by_cases h:r=ix<;>simp [h,wtx]
|k+1,r,acc=>by
  rw [bwk,A30,wtx];by_cases h:r=ix
  ·simp [h]
  ·rw [if_neg h,if_neg h,if_neg h,A7R l ix k];simp
theorem A8f (x:Int):cno x=(((4294967295#32:BitVec 32) ^^^ BitVec.ofInt 32 x).toNat:Int):=by
 have h:=((4294967295#32:BitVec 32) ^^^ BitVec.ofInt 32 x).isLt;exact (IntWalk.u32_in (((4294967295#32:BitVec 32) ^^^ BitVec.ofInt 32 x).toNat:Int) ⟨by omega,by omega⟩:_)
theorem A7Q (h:W32 x):cno (cno x)=x:=by
 obtain ⟨n,rfl⟩:=Int.eq_ofNat_of_zero_le h.1;have hn:n < 2 ^ 32:=by have:=h.2;omega
 rw [A8f (cno n),A8f n,BitVec.ofInt_natCast,BitVec.ofNat_toNat,BitVec.setWidth_eq,<- BitVec.xor_assoc,BitVec.xor_self,BitVec.zero_xor,BitVec.ofInt_natCast,BitVec.toNat_ofNat,Nat.mod_eq_of_lt hn]
theorem A7P:∀ (t:I_) (a:Int),W32 a->A5p (cno a) t=cno (fd a t)
|[],a,_=>rfl
|b::t,a,h=>by
  have e:crc (cno a) [[b]]=cno (cup a b):=by
   show cno (cup (cno (cno a)) b)=_;rw [A7Q h]
  show A5p (crc (cno a) [[b]]) t=_;rw [e,A7P t (cup a b) (Rj _ _ _)];rfl
theorem A7G (t:I_):A5p 0 t=crc 0 [t]:=by
 have h:W32 (cno 0):=Rj _ _ _;have e:(0:Int)=cno (cno 0):=(A7Q ⟨by decide,by decide⟩).symm;have:=A7P t (cno 0) h;rw [<- e] at this;exact this
theorem A8n (out:I_) (p s:Int):chk out p s=if A30 out p.toNat out.length 0=true then (if A5p 0 (wtx out p.toNat out.length 0)=s then .ok (wtx out p.toNat out.length 0) else .error 250) else .error 170:=by
 rw [chk,A7R,A7G];by_cases h:A30 out p.toNat out.length 0=true
 ·simp only [h,if_true,List.append_nil,List.reverse_reverse]
 ·simp only [h];rfl
def Cf.ext (c:Cf) (r:I_):Cf:={ c with R:=c.R++r }
theorem A7x {R:I_} {j:Nat} (h:j < 8 * R.length):AP (R++r) j=AP R j:=by
 have e:gi (R++r) (j / 8)=gi R (j / 8):=by
  rw [BZ _ _ (show j / 8 < (R++r).length by rw [List.length_append];omega),BZ _ _ (show j / 8 < R.length by omega)];exact List.getElem_append_left _
 unfold AP;rw [e]
theorem A87 {R:I_} {j:Nat} (h:j<=8 * R.length):zpad (R++r) j=zpad R j:=by
 unfold zpad;refine Bool.eq_iff_iff.2 ?_;simp only [l_t,List.mem_range];exact forall_congr' fun i=>forall_congr' fun hi=>by rw [A7x (by omega)]
theorem A7Z (hj:c.j<=8 * c.R.length) (hs:starved c=false\/r=[]):AB (c.ext r)=((AB c).1,(AB c).2.ext r):=by
 obtain ⟨s,R,j⟩:=c;rcases hs with hs|rfl
 ·cases s with
 |head t =>
   cases R with
  |nil=>cases hs
  |cons x R=>simp only [Cf.ext,AB,List.cons_append];cases t.step x<;>rfl
 |mark n t =>
   cases R with
  |nil=>cases hs
  |cons x R=>simp only [Cf.ext,AB,List.cons_append];cases t.step n x<;>rfl
 |table n m p s t =>
   have h:j < 8 * R.length:=by simpa [starved] using hs
   have h2:j < 8 * (R++r).length:=by rw [List.length_append];omega
   simp only [Cf.ext,AB,if_pos h,if_pos h2,Oj,A7x h];split
   ·split<;>rfl
   ·rfl
 |syms n m p s L q k b =>
   have h:j < 8 * R.length:=by simpa [starved] using hs
   have h2:j < 8 * (R++r).length:=by rw [List.length_append];omega
   simp only [Cf.ext,AB,if_pos h,if_pos h2,eY,A7x h,MQ];split
   ·split
    ·split<;>rfl
    ·rfl
   ·rfl
 |pad n m p s =>
   simp only [Cf.ext,AB,A87 hj];have hk:(j+7) / 8<=R.length:=by have:j<=8 * R.length:=hj;omega
   rw [List.drop_append_of_le_length hk];split<;>rfl
 |behind =>
   have h:0 < R.length:=by
    cases R with
   |nil=>cases hs
   |cons x R=>simp
   have h2:0 < (R++r).length:=by rw [List.length_append];omega
   have e1:AB ⟨.behind,R,j⟩=(some (.bad 261),⟨.bad 261,R,j⟩):=if_pos h;have e2:AB ⟨.behind,R++r,j⟩=(some (.bad 261),⟨.bad 261,R++r,j⟩):=if_pos h2;show AB ⟨.behind,R++r,j⟩=((AB ⟨.behind,R,j⟩).1,(AB ⟨.behind,R,j⟩).2.ext r);rw [e1,e2];rfl
 |over=>rfl
 |bad e=>rfl
 ·simp only [Cf.ext,List.append_nil]
theorem A8m (h:c.j<=8 * c.R.length):(AB c).2.j<=8 * (AB c).2.R.length:=by
 obtain ⟨s,R,j⟩:=c;cases s with
|head t =>
  cases R with
 |nil=>exact h
 |cons x R=>simp only [AB];cases t.step x<;>exact Nat.zero_le _
|mark n t =>
  cases R with
 |nil=>exact h
 |cons x R=>simp only [AB];cases t.step n x<;>exact Nat.zero_le _
|table n m p s t =>
  simp only [AB];split
  ·simp only [Oj];split
   ·split<;>(simp only;omega)
   ·simp only;omega
  ·exact h
|syms n m p s L q k b =>
  simp only [AB];split
  ·simp only [eY];split
   ·simp only [MQ];split<;>(simp only;omega)
   ·simp only;omega
  ·exact h
|pad n m p s =>
  simp only [AB];split<;>exact Nat.zero_le _
|behind=>simp only [AB];split<;>exact h
|over=>exact h
|bad e=>exact h
theorem A7B {o:Option Evt} (hj:c.j<=8 * c.R.length) (hr:en=true->r=[]) (h:A7f en c=(o,c2)):(o=some .need/\c2=c)\/(AB (c.ext r)=(o,c2.ext r)/\c2.j<=8 * c2.R.length):=by
 unfold A7f at h;split at h
 ·cases h;exact .inl ⟨rfl,rfl⟩
 ·rename_i hs
  have hs':starved c=false\/r=[]:=by
   cases en with
  |true=>exact .inr (hr rfl)
  |false=>exact .inl (by simpa using hs)
  refine .inr ⟨by rw [A7Z hj hs',h],?_⟩;have:=A8m hj;rw [h] at this;exact this
def Gev (c2:Cf) (out x:I_) (b:Nat):Evt->I_ × Nat × Int
|.block _ _ _=>G c2 [] x b
|.bytes t=>G c2 (out++t) x b
|.U5 _ p s=>match chk out p s with
 |.error e=>(x,b,e)
 |.ok t=>G c2 [] (x++t) (b+1)
|.tail s=>if s=crc 0 [x] then G c2 out x b else (x,b,260)
|.fin=>(x,b,0)
|.bad e=>(x,b,e)
|_=>G c2 out x b
theorem NxE.G {en:Bool} {c c2:Cf} {ev:Evt} {r:I_} (h:NxE en c ev c2) (hj:c.j<=8 * c.R.length) (hr:en=true->r=[]) (out x:I_) (b:Nat):Go.Proofs.YtkpbhdhkdonghaaGreat.G (c.ext r) out x b=Gev (c2.ext r) out x b ev:=by
 induction h with
|now h =>
  rename_i c ev c2;rcases A7B hj hr h with ⟨h1,rfl⟩|⟨h1,_⟩
  ·cases h1;rfl
  ·rw [Go.Proofs.YtkpbhdhkdonghaaGreat.G];cases ev with
  |need=>exact absurd (by rw [h1]) (A5o (c.ext r))
  |U5 m p s=>simp [h1,H6,Evt.last,Gev];rfl
  |_=>simp [h1,H6,Evt.last,Gev]
|later h hn ih =>
  rename_i c ev c2;rcases A7B hj hr (Prod.ext h rfl:A7f en c=(none,(A7f en c).2)) with ⟨h1,_⟩|⟨h1,h2⟩
  ·cases h1
  ·rw [<- ih h2];rw [NJ (by rw [h1]),h1]
open Go Tryz Go.RowKit
theorem V4.feed {c:Cf} {k:Nat} {hs ms ts cs ds er:A_} (h:V4 c k hs ms ts cs ds er) (r:I_):V4 { c with R:=r } k hs ms ts cs ds er:=by
 obtain ⟨s,R,j⟩:=c;cases s<;>exact h
theorem A4m {gd gr gq gp:Nat × A_} {X E RR:Rws}:(gd::gr::(X++(gq::(RR++(gp::E))))).Perm (gq::gd::(RR++(gp::gr::(X++E)))):=by
 have e:∀ (A B:Rws) (g:Nat × A_),(A++(g::B)).Perm (g::(A++B)):=fun A B g=>List.perm_middle
 have h:∀ (U V W:Rws),(U++(V++W)).Perm (V++(U++W)):=fun U V W=>by
  exact xds
 have t1:(X++(gq::(RR++(gp::E)))).Perm (gq::(RR++(gp::(X++E)))):=(e X _ gq).trans (((h X RR _).trans ((e X E gp).append_left RR)).cons gq);have t2:(RR++(gp::gr::(X++E))).Perm (gr::(RR++(gp::(X++E)))):=((List.Perm.swap gr gp _).append_left RR).trans (e RR _ gr);refine ((t1.cons gr).cons gd).trans ?_;refine List.Perm.trans ?_ ((t2.cons gd).cons gq).symm;exact ((List.Perm.swap gq gr _).cons gd).trans (List.Perm.swap gq gd _)
theorem A4M {gd gr gp:Nat × A_} {Z RR:Rws}:(gd::gr::(RR++(gp::Z))).Perm (gd::(RR++(gp::gr::Z))):=by
 have e:∀ (A B:Rws) (g:Nat × A_),(A++(g::B)).Perm (g::(A++B)):=fun A B g=>List.perm_middle;exact (((e RR _ gr).symm).trans ((List.Perm.swap gp gr _).append_left RR)).cons gd
section
variable {bud gd gr gp F:Nat} {s:Dk} {w0 w:World} {ss:List Sl} {R rs:Rws}
theorem A6q {gq:Nat} {u:Value} {m:I_} (h:A3l bud gd gr gp F false rs s R) (hF:F+m.length<=1000) (hbm:Bytes m) (hu:∀ W rr,Own w0 W rr ss->Src W u (vs .u8 m)) (hm:Own w0 w ((gq,#[u])::R) ss):Calls prog 18 #[.pointer (some ⟨gd,0,none⟩),.slice (some ⟨gq,0,none⟩) 1 1] w fun x w'=>x=.returned (.bool true)/\∃ R2,A3l bud gd gr gp (F+m.length) false rs (s.feed m) R2/\Own w0 w' R2 ss:=by
 obtain ⟨D,P,rfl,hP,hD,hI⟩:=h;obtain ⟨md,pa,sv,bv,RR,rfl⟩:=hD.row;obtain ⟨k,hs,ms,ts,cs,ds,er,RP,hPe,hk,hz,hp,X,E,v,used,rfl,ht,hB,hl,hj,hu0,hu8,hF1⟩:=hP [];simp only [List.append_nil] at hPe;subst hPe;simp only [l_a,List.cons_append] at hm;refine (A77 gd bud md pa gr _ sv s.m s.p s.q s.out.length bv s.st s.told s.all s.e w0 w (RR++((gp,PR (PT (k+1)) hs ms ts cs ds er)::(E++rs))) ss v ((s.c.j % 8:Nat):Int) used gq u X (s.c.R.drop (s.c.j / 8)) m (hm.perm A4m) ht hu (by simp only [List.length_drop];omega)).mono ?_;rintro x w' ⟨rfl,X2,v2,ht2,hm2⟩;have hm3:=(hm2.perm A4m.symm).dropRow;have hd8:s.c.j / 8<=s.c.R.length:=by omega
 refine ⟨rfl,_,⟨_,(gp,PR (PT (k+1)) hs ms ts cs ds er)::(gr,RD v2 ((s.c.j % 8:Nat):Int) used false)::(X2++E),rfl,fun rs=>⟨k,hs,ms,ts,cs,ds,er,_,rfl,hk,hz,hp.feed _,X2,E,v2,used,by simp only [l_a,List.append_eq,List.cons_append];rfl,?_,?_,?_,?_,hu0,?_,hF⟩,hD.keep rfl rfl rfl rfl rfl rfl rfl rfl rfl id,hI.feed hbm⟩,by simpa only [l_a,List.cons_append] using hm3⟩
 ·show Tail X2 v2 ((s.c.R++m).drop (s.c.j / 8));rw [List.drop_append_of_le_length hd8];exact ht2
 ·exact fun x hx=>(List.mem_append.1 hx).elim (hB x) (hbm x)
 ·show (s.c.R++m).length<=F+m.length;rw [List.length_append];omega
 ·show s.c.j<=8 * (s.c.R++m).length;rw [List.length_append];omega
 ·show used+((8 * (s.c.R++m).length - s.c.j:Nat):Int)=8 * (F+m.length:Nat);rw [List.length_append];omega
theorem A6P (h:A3l bud gd gr gp F false rs s R) (hm:Own w0 w R ss):Calls prog 21 #[.pointer (some ⟨gd,0,none⟩)] w fun x w'=>x=.returned (.bool true)/\∃ R2,A3l bud gd gr gp F true rs s R2/\Own w0 w' R2 ss:=by
 obtain ⟨D,P,rfl,hP,hD,hI⟩:=h;obtain ⟨md,pa,sv,bv,RR,rfl⟩:=hD.row;obtain ⟨k,hs,ms,ts,cs,ds,er,RP,hPe,hk,hz,hp,X,E,v,used,rfl,ht,hB,hl,hj,hu0,hu8⟩:=hP [];simp only [List.append_nil] at hPe;subst hPe;simp only [l_a,List.cons_append] at hm;refine (dcend gd bud md pa gr _ sv s.m s.p s.q s.out.length bv s.st s.told s.all s.e w0 w (RR++((gp,PR (PT (k+1)) hs ms ts cs ds er)::(X++(E++rs)))) ss v ((s.c.j % 8:Nat):Int) used (hm.perm A4M)).mono ?_;rintro x w' ⟨rfl,hm2⟩;refine ⟨rfl,_,⟨_,(gp,PR (PT (k+1)) hs ms ts cs ds er)::(gr,RD v ((s.c.j % 8:Nat):Int) used true)::(X++E),rfl,fun rs=>⟨k,hs,ms,ts,cs,ds,er,_,rfl,hk,hz,hp,X,E,v,used,by simp only [l_a,List.append_eq,List.cons_append],ht,hB,hl,hj,hu0,hu8⟩,hD,hI⟩,by simpa only [l_a,List.cons_append] using hm2.perm A4M.symm⟩
def Dk0:Dk:=⟨⟨.head ⟨0,0,0⟩,[],0⟩,none,[],0,0,0,none,0,0,0,0⟩
theorem DI.start:DI Dk0:=⟨fun _=>⟨rfl,fun N m p q g=>⟨fun x hx=>(by cases hx),Nat.le_refl _,.inl ⟨by decide,by decide,rfl,rfl⟩⟩⟩,fun _ w hw=>by cases hw⟩
theorem Pay.start:Pay 0 Dk0:=⟨by decide,by decide,by decide,by decide⟩
theorem A5U (b:Nat) (b1:1<=b) (b2:b<=1048576) (hm:Own w0 w [] ss):Calls prog 17 #[.int .i64 b] w fun x w'=>∃ gd gr gp R,x=.returned (.tuple #[.pointer (some ⟨gd,0,none⟩),.int .i64 0])/\A3l b gd gr gp 0 false [] Dk0 R/\Own w0 w' R ss:=by
 refine (dcnew b w0 w [] ss hm b1 b2).mono ?_;rintro x w' ⟨gd,ga,gx,gr,gp,rfl,hm⟩;have hz:(List.replicate b (0:Int)).length=b:=l_r ..;refine ⟨gd,gr,gp,_,rfl,⟨(gd,DRw b 0 (.pointer (some ⟨ga,0,none⟩)) (.pointer (some ⟨gr,0,none⟩)) (.pointer (some ⟨gp,0,none⟩)) (.slice none 0 0) 0 0 0 0 .nilIface 0 0 0 0)::([]++((ga,AR (.slice (some ⟨gx,0,none⟩) (List.replicate b (0:Int)).length (List.replicate b (0:Int)).length) 0 0)::(gx,B (List.replicate b 0))::[])),[(gp,PR0),(gr,RD (.slice none 0 0) 0 0 false)],rfl,fun rs=>Rel.start (v:=.nilIface),⟨ga,gx,0,0,List.replicate b 0,0,0,0,_,_,[],[],hz,fun x hx=>by rw [List.eq_of_mem_replicate hx];decide,by decide,by omega,by omega,rfl,⟨rfl,fun _=>rfl⟩,fun _=>⟨⟨rfl,rfl,rfl,rfl,rfl,rfl⟩,rfl,rfl⟩⟩,DI.start⟩,?_⟩;rw [hz];refine hm.perm ?_;exact List.Perm.cons _ (List.perm_append_comm (l₁:=[_,_]) (l₂:=[_,_]))
end
end Go.Proofs.YtkpbhdhkdonghaaGreat

set_option linter.all false
namespace Go.Proofs.YtkpbhdhkdonghaaGreat
open Go Go.RowKit
variable {c:Cf} {e e' mo n:Int} {x:I_} {b:Nat}
theorem A7F {r l:I_} (hs:starved c=false\/r=[]) (hI:∀ t,c.s=.head t->A7e t (c.R++r)=A7e ⟨0,0,0⟩ l):(∀ t,(AB c).2.s=.head t->A7e t ((AB c).2.R++r)=A7e ⟨0,0,0⟩ l)/\(∀ n,(AB c).1=some (.head n)->∃ R2,A7e ⟨0,0,0⟩ l=.ok (n,R2))/\(∀ e,(AB c).1=some (.bad e)->c.s.ph=0->∃ e',A7e ⟨0,0,0⟩ l=.error e')/\((AB c).1=none->(AB c).2.s.ph=c.s.ph):=by
 obtain ⟨s,R,j⟩:=c;cases s with
|head t =>
  have h0:=hI t rfl;cases R with
 |nil =>
   rcases hs with hs|rfl
   ·cases hs
   ·refine ⟨fun t h=>(by cases h),fun n h=>(by cases h),fun e h _=>?_,fun h=>(by cases h)⟩;rw [<- h0];exact ⟨50,rfl⟩
 |cons x R =>
   simp only [List.cons_append,A7e] at h0;simp only [AB];cases hx:t.step x with
  |go t2 =>
    rw [hx] at h0;exact ⟨fun t h=>(by cases h;exact h0),fun n h=>(by cases h),fun e h=>(by cases h),fun _=>rfl⟩
  |done n =>
    rw [hx] at h0;exact ⟨fun t h=>(by cases h),fun n h=>(by cases h;exact ⟨_,h0.symm⟩),fun e h=>(by cases h),fun h=>(by cases h)⟩
  |bad e =>
    rw [hx] at h0;exact ⟨fun t h=>(by cases h),fun n h=>(by cases h),fun e h _=>⟨_,h0.symm⟩,fun h=>(by cases h)⟩
|mark n t =>
  cases R with
 |nil=>exact ⟨fun t h=>(by cases h),fun n h=>(by cases h),fun e _ h=>(by cases h),fun h=>(by cases h)⟩
 |cons x R =>
   simp only [AB];cases t.step n x<;>exact ⟨fun t h=>(by cases h),fun n h=>(by cases h),fun e _ h=>(by cases h),fun h=>(by first|rfl|cases h)⟩
|table n m p s t =>
  simp only [AB];split
  ·simp only [Oj];split
   ·split<;>exact ⟨fun t h=>(by cases h),fun n h=>(by cases h),fun e _ h=>(by cases h),fun h=>(by first|rfl|cases h)⟩
   ·exact xdu
  ·exact xdu
|syms n m p s L q k b =>
  simp only [AB];split
  ·simp only [eY];split
   ·generalize FY b (pfs L q k (AP R j)).2.2.1=d;simp only [MQ];split
    ·cases d.2.2.1<;>exact ⟨fun t h=>(by cases h),fun n h=>(by split at h<;>cases h),fun e _ h=>(by cases h),fun h=>rfl⟩
    ·exact xd5
   ·exact ⟨fun t h=>(by cases h),fun n h=>(by cases h),fun e _ h=>(by cases h),fun h=>rfl⟩
  ·exact xd5
|pad n m p s =>
  exact xdi
|behind =>
  exact xdi
|over=>exact ⟨fun t h=>(by cases h),fun n h=>(by cases h),fun e _ h=>(by cases h),fun h=>(by cases h)⟩
|bad e=>exact ⟨fun t h=>(by cases h),fun n h=>(by cases h),fun e _ h=>(by cases h),fun h=>(by cases h)⟩
theorem A7v {en:Bool} {r:I_} (hr:en=true->r=[]):A7f en c=(some .need,c)\/(A7f en c=AB c/\(starved c=false\/r=[])):=by
 unfold A7f;split
 ·exact .inl rfl
 ·rename_i h;refine .inr ⟨rfl,?_⟩;cases en with
 |true=>exact .inr (hr rfl)
 |false=>exact .inl (by simpa using h)
theorem NxE.hd {en:Bool} {c2:Cf} {ev:Evt} {r l:I_} (h:NxE en c ev c2) (hr:en=true->r=[]) (hI:∀ t,c.s=.head t->A7e t (c.R++r)=A7e ⟨0,0,0⟩ l):(∀ t,c2.s=.head t->A7e t (c2.R++r)=A7e ⟨0,0,0⟩ l)/\(∀ n,ev=.head n->∃ R2,A7e ⟨0,0,0⟩ l=.ok (n,R2))/\(∀ e,ev=.bad e->c.s.ph=0->∃ e',A7e ⟨0,0,0⟩ l=.error e'):=by
 induction h with
|now h =>
  rename_i c ev c2;rcases A7v (c:=c) hr with h1|⟨h1,hs⟩
  ·rw [h1] at h;cases h;exact ⟨hI,fun n h=>(by cases h),fun e h=>(by cases h)⟩
  ·rw [h1] at h;obtain ⟨a,b,d,_⟩:=A7F hs hI;rw [h] at a b d;exact ⟨a,fun n e=>b n (by rw [e]),fun e e1 e2=>d e (by rw [e1]) e2⟩
|later h hn ih =>
  rename_i c ev c2;rcases A7v (c:=c) hr with h1|⟨h1,hs⟩
  ·rw [h1] at h;cases h
  ·obtain ⟨a,b,d,f⟩:=A7F hs hI;rw [h1] at h ih;obtain ⟨i1,i2,i3⟩:=ih a;exact ⟨i1,i2,fun e e1 e2=>i3 e e1 (by rw [f h];exact e2)⟩
theorem NxE.U5 {en:Bool} {c c2:Cf} {ev:Evt} {N m p q g:Int} (h:NxE en c ev c2) (hE:EI c N m p q g):∀ k a b,ev=.U5 k a b->a=p/\b=q:=by
 induction h with
|now h =>
  rename_i c ev c2;intro k a b e;subst e
  have h1:(AB c).1=some (.U5 k a b):=by
   unfold A7f at h;split at h
   ·cases h
   ·rw [h]
  obtain ⟨s,R,j⟩:=c;cases s with
 |head t =>
   cases R with
  |nil=>cases h1
  |cons x R=>simp only [AB] at h1;cases hx:t.step x<;>rw [hx] at h1<;>cases h1
 |mark n t =>
   cases R with
  |nil=>cases h1
  |cons x R=>simp only [AB] at h1;cases hx:t.step n x<;>rw [hx] at h1<;>cases h1
 |table n m p s t =>
   simp only [AB,Oj] at h1
   repeat' split at h1
   all_goals cases h1
 |syms n m p s L q k b =>
   simp only [AB,eY,MQ] at h1
   repeat' split at h1
   all_goals cases h1
 |pad n m2 p2 s2 =>
   have hd:=hE.2.2.1;simp only [AB] at h1;split at h1
   ·cases h1;exact ⟨hd.2.2.2.2.1.symm,hd.2.2.2.2.2.1.symm⟩
   ·cases h1
 |behind=>simp only [AB] at h1;split at h1<;>cases h1
 |over=>cases h1
 |bad e=>cases h1
|later h hn ih =>
  rename_i c ev c2
  have h1:A7f en c=AB c:=by
   unfold A7f at h ⊢;split
   ·rename_i h2;rw [if_pos h2] at h;cases h
   ·rfl
  rw [h1] at h ih;have:=hE.step;rw [h] at this;exact ih this.2.2
def pend (s:Dk):I_:=match s.bk with
|none=>[]
|some w=>wtx w.col w.ix (w.col.length - w.k) w.r
def Dk.oo (s:Dk):I_:=if s.c.s.ph=2 then s.out else []
def G0 (l:I_):I_ × Nat × Int:=G ⟨.head ⟨0,0,0⟩,l,0⟩ [] [] 0
def Tgt (bud:Int) (l:I_):I_ × Int:=match A7e ⟨0,0,0⟩ l with
|.ok (n,_)=>if (Pol.pk bud n 2).2=0 then ((G0 l).1,(G0 l).2.2) else ([],(Pol.pk bud n 2).2)
|.error _=>((G0 l).1,(G0 l).2.2)
structure TI (bud:Int) (l:I_) (s:Dk) (tl rem:I_):Prop where
 hd:s.e=0->∀ t,s.c.s=.head t->A7e t (s.c.R++rem)=A7e ⟨0,0,0⟩ l
 ok:s.e=0->s.hd=none->tl=[]/\s.bk=none
 hn:∀ n mo,s.hd=some (n,mo)->(∃ R2,A7e ⟨0,0,0⟩ l=.ok (n,R2))/\Pol.pk bud n 2=(mo,0)
 go:s.e=0->∃ b,G (s.c.ext rem) s.oo (tl++pend s) b=G0 l
 all:s.all=A5p 0 tl
 er:s.e ≠ 0->Tgt bud l=(tl,s.e)
section
variable {bud:Int} {en:Bool} {s s2:Dk} {c2:Cf} {ev:Evt} {l tl rem:I_} {r:Rsl}
theorem DI.j (h:DI s) (he:s.e=0):s.c.j<=8 * s.c.R.length:=by
 have:=h.hd he;cases hd:s.hd with
|none=>rw [hd] at this;exact (this.2 0 0 0 0 0).2.1
|some o=>rw [hd] at this;exact this.2.2.1
theorem Tgt.of (h:∃ R2,A7e ⟨0,0,0⟩ l=.ok (n,R2)) (hp:Pol.pk bud n 2=(mo,0)) (hG:G0 l=(x,b,e)):Tgt bud l=(x,e):=by
 obtain ⟨R2,h⟩:=h;unfold Tgt;rw [h];simp only [hp,hG,if_true]
theorem Tgt.no (h:A7e ⟨0,0,0⟩ l=.error e') (hG:G0 l=(x,b,e)):Tgt bud l=(x,e):=by
 unfold Tgt;rw [h];simp only [hG]
theorem TI.act (hI:DI s) (h:TI bud l s tl rem) (he:s.e=0) (hk:s.bk=none) (hN:NxE en s.c ev c2) (hr:en=true->rem=[]) (ha:ev.act=true) (hz:∀ e,ev=.bad e->e ≠ 0):TI bud l (s.act bud c2 ev) tl rem:=by
 obtain ⟨N,h1,h2,h3,hev⟩:=hI.ev he hN;obtain ⟨d1,d2,d3⟩:=hN.hd hr (h.hd he);obtain ⟨b,hG⟩:=h.go he;have hp:pend s=[]:=by rw [pend,hk]
 rw [hp,List.append_nil,hN.G (hI.j he) hr] at hG;have hn0:s.c.s.ph=0->s.hd=none/\tl=[]:=fun h=>⟨DI.A8l h3 h,(by assumption:TI bud l s tl rem).ok he (DI.A8l h3 h) |>.1⟩;cases ev with
|head n =>
  obtain ⟨hd0,rfl⟩:=hn0 hev.1;obtain ⟨R2,hR2⟩:=d2 n rfl;have hoo:s.oo=[]:=by rw [Dk.oo,if_neg (by rw [hev.1];decide)]
  rw [Dk.act];split
  ·rename_i h0;refine ⟨fun _=>d1,fun _ h=>(by cases h),fun n' mo' h=>?_,fun _=>⟨b,?_⟩,h.all,fun h=>absurd he h⟩
   ·cases h;exact ⟨⟨R2,hR2⟩,Prod.ext rfl h0⟩
   ·rw [show pend { s with c:=c2,hd:=some (n,(Pol.pk bud n 2).1) }=[] from hp,show Dk.oo { s with c:=c2,hd:=some (n,(Pol.pk bud n 2).1) }=[] from if_neg (by show ¬ c2.s.ph=2;rw [hev.2.1];decide)];rw [hoo] at hG;exact hG
  ·rename_i h0;refine ⟨fun h=>absurd h h0,fun h=>absurd h h0,fun n' mo' h=>?_,fun h=>absurd h h0,h.all,fun _=>?_⟩
   ·simp only [hd0] at h;cases h
   ·unfold Tgt;rw [hR2];simp only [h0,if_false]
|block k a b' =>
  refine ⟨fun _=>d1,h.ok,h.hn,fun _=>⟨b,?_⟩,h.all,fun h=>absurd he h⟩;show G (c2.ext rem) (if c2.s.ph=2 then [] else []) (tl++pend s) b=_;rw [ite_self,hp,List.append_nil];exact hG
|bytes t =>
  refine ⟨fun _=>d1,h.ok,h.hn,fun _=>⟨b,?_⟩,h.all,fun h=>absurd he h⟩;show G (c2.ext rem) (if c2.s.ph=2 then s.out++t else []) (tl++pend s) b=_;rw [if_pos hev.2.1,hp,List.append_nil];rw [Dk.oo,if_pos hev.1] at hG;exact hG
|tail q =>
  obtain ⟨mo,hd⟩:=DI.A46 h2 h1 (by rw [hev.1];decide);have hoo:s.oo=[]:=by rw [Dk.oo,if_neg (by rw [hev.1];decide)]
  rw [hoo] at hG;have hG':(if q=crc 0 [tl] then G (c2.ext rem) [] tl b else (tl,b,260))=G0 l:=hG;rw [<- A7G,<- h.all] at hG';rw [Dk.act];split
  ·rename_i h0;rw [if_pos h0] at hG';refine ⟨fun _=>d1,h.ok,h.hn,fun _=>⟨b,?_⟩,h.all,fun h=>absurd he h⟩;show G (c2.ext rem) (if c2.s.ph=2 then s.out else []) (tl++pend s) b=_;rw [if_neg (by rw [hev.2.1];decide),hp,List.append_nil];exact hG'
  ·rename_i h0;rw [if_neg h0] at hG';have hne:¬ (260:Int)=0:=by decide
   refine ⟨fun h=>absurd h hne,fun h=>absurd h hne,h.hn,fun h=>absurd h hne,h.all,fun _=>?_⟩;exact Tgt.of (h.hn _ _ hd).1 (h.hn _ _ hd).2 hG'.symm
|bad e =>
  have hne:=hz e rfl;have hG':(tl,b,e)=G0 l:=hG;refine ⟨fun h=>absurd h hne,fun h=>absurd h hne,h.hn,fun h=>absurd h hne,h.all,fun _=>?_⟩;show Tgt bud l=(tl,e);cases hd:s.hd with
 |none =>
   obtain ⟨e',h'⟩:=d3 e rfl (h2 hd);exact Tgt.no h' hG'.symm
 |some o=>exact Tgt.of (h.hn _ _ hd).1 (h.hn _ _ hd).2 hG'.symm
|U5 k a b' =>
  obtain ⟨mo,hd⟩:=DI.A46 h2 h1 (by rw [hev.1];decide);have hEI:=hI.hd he;rw [hd] at hEI;obtain ⟨rfl,rfl⟩:=hN.U5 hEI.2 k a b' rfl
  have hG':(match chk s.oo s.p s.q with
  |.error e=>(tl,b,e)
  |.ok t=>G (c2.ext rem) [] (tl++t) (b+1))=G0 l:=hG
  rw [Dk.oo,if_pos hev.1,A8n] at hG';show TI bud l (s.ends c2) tl rem;rw [Dk.ends];split
  ·rename_i hv;rw [if_pos hv] at hG';split
   ·rename_i hc;rw [if_pos hc] at hG';refine ⟨fun _=>d1,fun _ h=>absurd (hd.symm.trans h) (by intro h;cases h),h.hn,fun _=>⟨b+1,?_⟩,h.all,fun h=>absurd he h⟩;show G (c2.ext rem) (if c2.s.ph=2 then s.out else []) (tl++wtx s.out s.p.toNat (s.out.length - 0) 0) (b+1)=_;rw [if_neg (by rw [hev.2.1];decide),Nat.sub_zero];exact hG'
   ·rename_i hc;rw [if_neg hc] at hG';have hne:¬ (250:Int)=0:=by decide
    exact xda
  ·rename_i hv;rw [if_neg hv] at hG';have hne:¬ (170:Int)=0:=by decide
   exact xda
|fin=>cases ha
|need=>cases ha
def TIr (bud:Int) (l:I_) (s2:Dk) (tl rem:I_):Rsl->Prop
|.byte b=>TI bud l s2 (tl++[b]) rem
|.need=>TI bud l s2 tl rem
|.fin=>Tgt bud l=(tl,0)
|.bad e=>Tgt bud l=(tl,e)/\e ≠ 0
theorem DN.ti (h:DN bud en s r s2) (hI:DI s) (hT:TI bud l s tl rem) (hr:en=true->rem=[]):TIr bud l s2 tl rem r:=by
 induction h with
|err h=>exact ⟨hT.er h,h⟩
|byte he hb =>
  rename_i s w;obtain ⟨b1,b2,b3⟩:=hI.bk he w hb;obtain ⟨q0,_,_,_⟩:=b2.step;have hk:=b2.k;obtain ⟨i,hi⟩:∃ i,w.col.length - w.k=i+1:=⟨w.col.length - w.k - 1,by omega⟩
  have hp:pend s=w.byte::wtx w.col w.ix i (aft w.col (Iw w.ix w.r)).toNat:=by
   rw [pend,hb];show wtx w.col w.ix (w.col.length - w.k) w.r=_;rw [hi,wtx,if_neg q0];rfl
  have hall:crc s.all [[w.byte]]=A5p 0 (tl++[w.byte]):=by rw [hT.all,A5p,A5p,List.foldl_append];rfl
  obtain ⟨b,hG⟩:=hT.go he;rw [hp] at hG
  have hh:∀ s':Dk,s'.hd=s.hd->s'.e=s.e->s'.c=s.c->s'.out=s.out->s'.all=crc s.all [[w.byte]]->pend s'=wtx w.col w.ix i (aft w.col (Iw w.ix w.r)).toNat->TI bud l s' (tl++[w.byte]) rem:=fun s' e1 e2 e3 e4 e5 e6=>by
   refine ⟨fun h=>by rw [e3];exact hT.hd (e2 ▸ h),fun h h'=>absurd (hb.symm.trans (hT.ok (e2 ▸ h) (e1 ▸ h')).2) (by intro h;cases h),fun n mo h=>hT.hn n mo (e1 ▸ h),fun _=>⟨b,?_⟩,by rw [e5,hall],fun h=>absurd he (e2 ▸ h)⟩;rw [e3,e6,show s'.oo=s.oo by rw [Dk.oo,Dk.oo,e3,e4],l_a];exact hG
  show TI bud l (s.tell w) (tl++[w.byte]) rem;rw [Dk.tell];split
  ·rename_i hm;have:i=0:=by omega
   subst this;exact hh _ rfl rfl rfl rfl rfl rfl
  ·rename_i hm;refine hh _ rfl rfl rfl rfl rfl ?_;show wtx w.col w.ix (w.col.length - (w.k+1)) _=_;rw [show w.col.length - (w.k+1)=i by omega];rfl
|need he hb hN =>
  rename_i s c2;obtain ⟨N,h1,h2,h3,hev⟩:=hI.ev he hN;obtain ⟨d1,d2,d3⟩:=hN.hd hr (hT.hd he);obtain ⟨b,hG⟩:=hT.go he;rw [hN.G (hI.j he) hr] at hG;refine ⟨fun _=>d1,hT.ok,hT.hn,fun _=>⟨b,?_⟩,hT.all,fun h=>absurd he h⟩;show G (c2.ext rem) (if c2.s.ph=2 then s.out else []) (tl++pend s) b=_;rw [hev.1];exact hG
|fin he hb hN =>
  rename_i s c2;obtain ⟨N,h1,h2,h3,hev⟩:=hI.ev he hN;obtain ⟨mo,hd⟩:=DI.A46 h2 h1 (by rw [hev.1];decide);obtain ⟨b,hG⟩:=hT.go he;rw [hN.G (hI.j he) hr,pend,hb] at hG;have hG':(tl++[],b,(0:Int))=G0 l:=hG;rw [List.append_nil] at hG';exact Tgt.of (hT.hn _ _ hd).1 (hT.hn _ _ hd).2 hG'.symm
|act he hb hN ha hz _ ih=>exact ih (hI.act he hb hN ha hz) (hT.act hI he hb hN hr ha hz)
theorem TI.feed {m:I_} (h:TI bud l s tl (m++rem)):TI bud l (s.feed m) tl rem:=by
 refine ⟨fun he t ht=>?_,h.ok,h.hn,fun he=>?_,h.all,h.er⟩
 ·have:=h.hd he t ht;show A7e t ((s.c.R++m)++rem)=_;rw [l_a];exact this
 ·obtain ⟨b,hG⟩:=h.go he;refine ⟨b,?_⟩;have e:(s.feed m).c.ext rem=s.c.ext (m++rem):=by simp only [Dk.feed,Cf.ext,l_a]
  rw [e];exact hG
theorem TI.start:TI bud l Dk0 [] l:=by
 refine ⟨fun _ t h=>?_,fun _ _=>⟨rfl,rfl⟩,fun n mo h=>(by cases h),fun _=>⟨0,rfl⟩,rfl,fun h=>absurd rfl h⟩;cases h;rfl
end
end Go.Proofs.YtkpbhdhkdonghaaGreat
