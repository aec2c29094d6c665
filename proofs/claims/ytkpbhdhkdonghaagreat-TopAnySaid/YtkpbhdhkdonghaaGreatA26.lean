/-
  Part 26 of the proof.
-/
import Derived.Test.YtkpbhdhkdonghaaGreatA25
set_option linter.all false
set_option maxHeartbeats 4000000
set_option maxRecDepth 100000
set_option linter.all false
namespace Go.Proofs.YtkpbhdhkdonghaaGreat
open Go Go.RowKit
structure WOk (w:Wk) (n b:Int):Prop where
 i1:1<=w.ix
 i2:w.ix<=w.col.length
 r:w.r<=w.col.length
 by':Bytes w.col
 n1:(w.col.length:Int)<=n
 b1:1<=b
 d:w.d=0\/(b=n\/b=w.d)
theorem WOk.cost {w:Wk} {n b:Int} (h:WOk w n b) (hr:w.r ≠ w.ix):0<=w.cost/\w.cost<=b/\WOk w.next n b:=by
 obtain ⟨i1,i2,r,hb,n1,b1,d⟩:=h;have hc:=A0z i1 i2 r hr;have ha:=A4u hb (Iw w.ix w.r) hc;refine ⟨?_,?_,⟨i1,i2,ha.2,hb,n1,b1,d⟩⟩
 ·rw [Wk.cost];split<;>omega
 ·rw [Wk.cost];split
  ·exact b1
  ·rename_i h0;have hm:=Nat.mod_lt (Iw w.ix w.r) (show w.d > 0 by omega);have hl:=Nat.mod_le (Iw w.ix w.r) w.d;rcases d with d|d|d<;>omega
theorem A7E {col:I_} {ix d:Nat} {n b:Int}:∀ (k r kk:Nat) (st:Int),WOk ⟨col,ix,d,r,kk,st⟩ n b->rco col ix d k r<=k * b
|0,r,kk,st,_=>by rw [A3W];simp
|k+1,r,kk,st,h=>by
  by_cases hr:r=ix
  ·have e:rco col ix d (k+1) r=0:=by
    unfold rco;split
    ·rw [wct,if_pos hr]
    ·rw [wst,if_pos hr]
   rw [e];exact Int.mul_nonneg (by omega) (by have:=h.b1;omega)
  ·rw [A3r hr];obtain ⟨c0,c1,h2⟩:=h.cost hr;have ih:rco col ix d k (aft col (Iw ix r)).toNat<=k * b:=A7E k (aft col (Iw ix r)).toNat _ _ h2;have hc:(if d=0 then (1:Int) else 1+((Iw ix r % d:Nat):Int))=Wk.cost ⟨col,ix,d,r,kk,st⟩:=rfl;rw [hc];have e:((k+1:Nat):Int) * b=(k:Int) * b+b:=by rw [Int.natCast_add,Int.add_mul];simp
   omega
def Dk.W (s:Dk):Int:=s.st+match s.bk with
|none=>0
|some w=>w.st
def Dk.bmx (s:Dk):Int:=match s.hd with
|none=>0
|some (n,mo)=>Pol.A7s n mo
def Dk.nn (s:Dk):Int:=match s.hd with
|none=>0
|some (n,_)=>n
structure DW (bud:Nat) (s:Dk):Prop where
 bk:s.e=0->∀ w,s.bk=some w->WOk w s.nn s.bmx
 no:s.e ≠ 0->s.bk=none
 hd:∀ n mo,s.hd=some (n,mo)->1<=n/\n<=65536/\Pol.pk bud n 2=(mo,0)
 ob:Bytes s.out
theorem DW.start {bud:Nat}:DW bud Dk0:=⟨fun _ w h=>(by cases h),fun _=>rfl,fun n mo h=>(by cases h),fun x h=>(by cases h)⟩
theorem DW.feed {bud:Nat} {s:Dk} (h:DW bud s) (m:I_):DW bud (s.feed m):=⟨h.bk,h.no,h.hd,h.ob⟩
theorem A7S {bud:Nat} {n mo:Int} (b1:1<=bud) (b2:bud<=1048576) (n1:1<=n) (n2:n<=65536) (h:Pol.pk bud n 2=(mo,0)):1<=Pol.A7s n mo/\((Pol.dist mo).toNat=0\/(Pol.A7s n mo=n\/Pol.A7s n mo=(Pol.dist mo).toNat)):=by
 obtain ⟨k,rfl⟩:=Int.eq_ofNat_of_zero_le (show 0<=n by omega);obtain ⟨mo',mk,e,hk,_⟩:=A73 b1 b2 (show 1<=k by omega) (by omega) (by rw [h]);rw [h] at e;cases e;rcases hk with ⟨rfl,_⟩|⟨rfl,_⟩|⟨rfl,_⟩
 ·refine ⟨?_,.inl (by decide)⟩;rw [Pol.A7s,show Pol.dd 3=1 from rfl];split<;>omega
 ·rw [Pol.A7s,show Pol.dd 1=8192 from rfl,show Pol.dist 1=8192 from rfl];split<;>omega
 ·rw [Pol.A7s,show Pol.dd 2=1024 from rfl,show Pol.dist 2=1024 from rfl];split<;>omega
section
variable {bud:Nat} {en:Bool} {s s2:Dk} {c2:Cf} {ev:Evt} {r:Rsl}
theorem DW.nb (h:DW bud s) (b1:1<=bud) (b2:bud<=1048576):0<=s.nn/\0<=s.bmx/\0<=s.nn * s.bmx:=by
 have:0<=s.nn/\0<=s.bmx:=by
  unfold Dk.nn Dk.bmx;cases hd:s.hd with
 |none=>exact ⟨Int.le_refl _,Int.le_refl _⟩
 |some o =>
   obtain ⟨n,mo⟩:=o;obtain ⟨x,y,z⟩:=h.hd n mo hd;have:=(A7S b1 b2 x y z).1;exact ⟨by show 0<=n;omega,by show 0<=Pol.A7s n mo;omega⟩
 exact ⟨this.1,this.2,Int.mul_nonneg this.1 this.2⟩
theorem DW.act (b1:1<=bud) (b2:bud<=1048576) (hI:DI s) (h:DW bud s) (he:s.e=0) (hk:s.bk=none) (hN:NxE en s.c ev c2) (ha:ev.act=true):DW bud (s.act bud c2 ev)/\(∀ o,s.hd=some o->(s.act bud c2 ev).hd=some o)/\s.W<=(s.act bud c2 ev).W/\(s.act bud c2 ev).W<=s.W+2 * (s.nn * s.bmx)/\((s.act bud c2 ev).bk=none->(s.act bud c2 ev).e=0->(s.act bud c2 ev).W=s.W):=by
 obtain ⟨N,h1,h2,h3,hev⟩:=hI.ev he hN;obtain ⟨nn0,nb0,nm0⟩:=h.nb b1 b2
 have plain:∀ s2:Dk,s2.bk=none->s2.hd=s.hd->s2.st=s.st->Bytes s2.out->DW bud s2/\(∀ o,s.hd=some o->s2.hd=some o)/\s.W<=s2.W/\s2.W<=s.W+2 * (s.nn * s.bmx)/\(s2.bk=none->s2.e=0->s2.W=s.W):=fun s2 e1 e2 e3 e4=>by
  have e:s2.W=s.W:=by rw [Dk.W,Dk.W,e1,e3,hk]
  exact ⟨⟨fun _ w hw=>absurd (e1.symm.trans hw) (by intro h;cases h),fun _=>e1,fun n mo hh=>h.hd n mo (e2 ▸ hh),e4⟩,fun o ho=>e2.trans ho,by omega,by omega,fun _ _=>e⟩
 cases ev with
|head n =>
  have hd0:=DI.A8l h3 hev.1;rw [Dk.act];split
  ·rename_i h0;have e:Dk.W { s with c:=c2,hd:=some (n,(Pol.pk bud n 2).1) }=s.W:=rfl;exact ⟨⟨fun _ w hw=>absurd (hk.symm.trans hw) (by intro h;cases h),fun _=>hk,fun n' mo' hh=>by cases hh;exact ⟨hev.2.2.2.1,hev.2.2.2.2.1,Prod.ext rfl h0⟩,h.ob⟩,fun o ho=>absurd (hd0.symm.trans ho) (by intro h;cases h),by omega,by omega,fun _ _=>e⟩
  ·exact plain _ hk rfl rfl h.ob
|block k a b=>exact plain _ hk rfl rfl (fun x hx=>by cases hx)
|bytes t=>exact plain _ hk rfl rfl fun x hx=>(List.mem_append.1 hx).elim (h.ob x) (hev.2.2.2.2.2.1 x)
|tail q=>rw [Dk.act];split<;>exact plain _ hk rfl rfl h.ob
|bad e=>exact plain _ hk rfl rfl h.ob
|U5 k a b =>
  obtain ⟨mo,hd⟩:=DI.A46 h2 h1 (by rw [hev.1];decide);obtain ⟨_,_,_,hg,⟨_,z1,z2,_,_,_,y1,y2,x1,x2,_⟩,_⟩:=hev;obtain ⟨q1,q2,q3⟩:=h.hd _ _ hd;obtain ⟨q4,q5⟩:=A7S b1 b2 q1 q2 q3;have enn:s.nn=N:=by rw [Dk.nn,hd]
  have ebm:s.bmx=Pol.A7s N mo:=by rw [Dk.bmx,hd]
  have ed:s.d=(Pol.dist mo).toNat:=by rw [Dk.d,hd]
  have hw:∀ st,WOk ⟨s.out,s.p.toNat,s.d,0,0,st⟩ s.nn s.bmx:=fun st=>⟨by show 1<=s.p.toNat;omega,by show s.p.toNat<=s.out.length;omega,Nat.zero_le _,h.ob,by rw [enn];show (s.out.length:Int)<=N;omega,by rw [ebm];exact q4,by rw [enn,ebm];show s.d=0\/_;rw [ed];exact q5⟩;have hc:=A7E s.out.length 0 0 0 (hw 0);rw [<- A7h] at hc;have hc0:=(A39 (col:=s.out) (ix:=s.p.toNat) (A8u s) s.out.length 0).1;rw [<- A7h] at hc0;have hm:(s.out.length:Int) * s.bmx<=s.nn * s.bmx:=Int.mul_le_mul_of_nonneg_right (by rw [enn];omega) nb0;have eW:s.W=s.st:=by rw [Dk.W,hk];exact Int.add_zero _
  show DW bud (s.ends c2)/\(∀ o,s.hd=some o->(s.ends c2).hd=some o)/\s.W<=(s.ends c2).W/\(s.ends c2).W<=s.W+2 * (s.nn * s.bmx)/\((s.ends c2).bk=none->(s.ends c2).e=0->(s.ends c2).W=s.W);rw [Dk.ends];split
  ·split
   ·refine ⟨⟨fun _ w hw'=>by cases hw';exact hw _,fun h=>absurd he h,h.hd,h.ob⟩,fun o ho=>ho,?_,?_,fun h=>by cases h⟩
    ·show s.W<=s.st+(A7g s.out s.p.toNat s.d+A7g s.out s.p.toNat s.d);omega
    ·show s.st+(A7g s.out s.p.toNat s.d+A7g s.out s.p.toNat s.d)<=_;omega
   ·refine ⟨⟨fun h=>absurd h (show ¬ (250:Int)=0 by decide),fun _=>hk,h.hd,h.ob⟩,fun o ho=>ho,?_,?_,fun _ h=>absurd h (show ¬ (250:Int)=0 by decide)⟩
    ·exact xhf
    ·exact xhf
  ·refine ⟨⟨fun h=>absurd h (show ¬ (170:Int)=0 by decide),fun _=>hk,h.hd,h.ob⟩,fun o ho=>ho,?_,?_,fun _ h=>absurd h (show ¬ (170:Int)=0 by decide)⟩
   ·exact xhf
   ·exact xhf
|fin=>cases ha
|need=>cases ha
theorem hd_nn (h:∀ o,s.hd=some o->s2.hd=some o) (h0:0<=s2.nn * s2.bmx):s.nn * s.bmx<=s2.nn * s2.bmx:=by
 cases hd:s.hd with
|none =>
  have:s.nn=0:=by rw [Dk.nn,hd]
  rw [this,Int.zero_mul];exact h0
|some o =>
  have e1:s2.nn=s.nn:=by rw [Dk.nn,Dk.nn,hd,h o hd]
  have e2:s2.bmx=s.bmx:=by rw [Dk.bmx,Dk.bmx,hd,h o hd]
  rw [e1,e2];exact Int.le_refl _
theorem DN.dw (b1:1<=bud) (b2:bud<=1048576) (h:DN bud en s r s2) (hI:DI s) (hW:DW bud s):DW bud s2/\(∀ o,s.hd=some o->s2.hd=some o)/\s.W<=s2.W/\s2.W<=s.W+(if s.e=0 then (if s.bk=none then 2 * (s2.nn * s2.bmx)+s2.bmx else s2.bmx) else 0):=by
 induction h with
|err h=>exact ⟨hW,fun o h=>h,Int.le_refl _,by rw [if_neg h];omega⟩
|byte he hb =>
  rename_i s w;obtain ⟨_,c2,_⟩:=hI.bk he w hb;obtain ⟨c0,c1,hn⟩:=(hW.bk he w hb).cost c2.step.1
  have eW:(s.tell w).W=s.W+w.cost:=by
   rw [Dk.tell];split
   ·simp only [Dk.W,hb,Wk.next];omega
   ·simp only [Dk.W,hb,Wk.next];omega
  have ehd:(s.tell w).hd=s.hd:=by rw [Dk.tell];split<;>rfl
  have en':(s.tell w).nn=s.nn:=by rw [Dk.nn,Dk.nn,ehd]
  have eb:(s.tell w).bmx=s.bmx:=by rw [Dk.bmx,Dk.bmx,ehd]
  refine ⟨⟨fun _ w' hw'=>?_,fun h'=>absurd (by rw [Dk.tell];split<;>exact he) h',fun n mo h'=>hW.hd n mo (ehd ▸ h'),by rw [Dk.tell];split<;>exact hW.ob⟩,fun o ho=>ehd.trans ho,by omega,?_⟩
  ·rw [en',eb];revert hw';rw [Dk.tell];split
   ·intro hw';cases hw'
   ·intro hw';cases hw';exact hn
  ·rw [if_pos he,if_neg (by rw [hb];intro h;cases h),eW,eb];omega
|need he hb hN =>
  exact xcw
|fin he hb hN =>
  exact xcw
|act he hb hN ha hz _ ih =>
  rename_i s s2 c2 ev r _;obtain ⟨a1,a2,a3,a4,a5⟩:=hW.act b1 b2 hI he hb hN ha;obtain ⟨i1,i2,i3,i4⟩:=ih (hI.act he hb hN ha hz) a1;have hnb:=i1.nb b1 b2;have hle:=hd_nn (fun o ho=>i2 o (a2 o ho)) hnb.2.2;refine ⟨i1,fun o ho=>i2 o (a2 o ho),by omega,?_⟩;rw [if_pos he,if_pos hb];by_cases e0:(s.act bud c2 ev).e=0
  ·rw [if_pos e0] at i4;by_cases k0:(s.act bud c2 ev).bk=none
   ·rw [if_pos k0] at i4;have:=a5 k0 e0;omega
   ·rw [if_neg k0] at i4;omega
  ·rw [if_neg e0] at i4;omega
theorem DW.bnd (b1:1<=bud) (b2:bud<=1048576) (h:DW bud s) {n:Int} (hn:∀ n' mo,s.hd=some (n',mo)->n'=n) (he:Pol.er n 2 s.mdz=0):2 * (s.nn * s.bmx)+s.bmx+4800<=Pol.bnd n s.mdz:=by
 have ho:Pol.A3i n 2 s.mdz:=by
  by_cases h:Pol.A3i n 2 s.mdz
  ·exact h
  ·rw [Pol.A7O h] at he;cases he
 cases hd:s.hd with
|none =>
  have:s.mdz=0:=by rw [Dk.mdz,hd]
  rw [this] at ho;obtain ⟨_,_,_,h⟩:=ho;omega
|some o =>
  obtain ⟨n',mo⟩:=o;obtain rfl:=hn n' mo hd;have e1:s.nn=n':=by rw [Dk.nn,hd]
  have e2:s.bmx=Pol.A7s n' mo:=by rw [Dk.bmx,hd]
  have e3:s.mdz=mo:=by rw [Dk.mdz,hd]
  rw [Pol.bnd,if_pos ho,e1,e2,e3];have hn1:=(h.hd _ _ hd).1;have e:(2 * n'+1) * Pol.A7s n' mo=2 * (n' * Pol.A7s n' mo)+Pol.A7s n' mo:=by rw [Int.add_mul,Int.one_mul,Int.mul_assoc]
  omega
end
open Go Tryz Go.RowKit
def Dk.us (F:Nat) (s:Dk):Int:=8 * F - (8 * s.c.R.length - s.c.j:Nat)
section
variable {bud gd gr gp F:Nat} {en:Bool} {s:Dk} {w0 w:World} {ss:List Sl} {R rs:Rws}
theorem A8d (h:A3l bud gd gr gp F en rs s R) (hm:Own w0 w R ss):Calls prog 43 #[.pointer (some ⟨gd,0,none⟩)] w fun x w'=>x=.returned (.int .u8 s.mdz)/\w'=w:=by
 obtain ⟨D,P,rfl,hP,hD,hI⟩:=h;obtain ⟨ga,gx,n,mk,l,md,live,peak,sv,bv,S,X,hl,hb,p0,p1,lv,rfl,hz,hh⟩:=hD;rw [<- hz.1];exact A8w gd bud md ga gr _ sv s.m s.p s.q s.out.length bv s.st s.told s.all s.e w0 w _ ss hm
theorem A8b (h:A3l bud gd gr gp F en rs s R) (hm:Own w0 w R ss):Calls prog 44 #[.pointer (some ⟨gd,0,none⟩)] w fun x w'=>∃ pk:Int,x=.returned (.int .i64 pk)/\pk<=bud/\w'=w:=by
 obtain ⟨D,P,rfl,hP,hD,hI⟩:=h;obtain ⟨ga,gx,n,mk,l,md,live,peak,sv,bv,S,X,hl,hb,p0,p1,lv,rfl,hz,hh⟩:=hD;simp only [l_a,List.cons_append] at hm;refine (A8v gd bud md ga gr _ sv s.m s.p s.q s.out.length bv (.slice (some ⟨gx,0,none⟩) l.length l.length) live peak s.st s.told s.all s.e w0 w _ ss (hm.perm (List.perm_middle.symm.cons _))).mono ?_;rintro x w' ⟨rfl,rfl⟩;exact ⟨peak,rfl,p1,rfl⟩
theorem A7C (h:A3l bud gd gr gp F en rs s R) (hno:s.e ≠ 0->s.bk=none) (hm:Own w0 w R ss) (s0:0<=s.st) (s1:s.st<=1000000000000000) (hF:F<=1000):Calls prog 41 #[.pointer (some ⟨gd,0,none⟩)] w fun x w'=>x=.returned (.int .i64 (s.W+s.us F))/\Own w0 w' R ss:=by
 obtain ⟨D,P,rfl,hP,hD,hI⟩:=h;obtain ⟨k,hs,ms,ts,cs,ds,er,RP,hPe,hk,hz',hp,X,E,v,used,rfl,ht,hB,hl',hj,hu0,hu8,hF1⟩:=hP [];simp only [List.append_nil] at hPe;subst hPe;have hus:s.us F=used:=by rw [Dk.us];omega
 have hu1:used<=1000000:=by omega
 obtain ⟨ga,gx,n,mk,l,md,live,peak,sv,bv,S,Y,hl,hb,p0,p1,lv,rfl,hz,hh⟩:=hD;rw [hus]
 have eR:∀ c:A_,((gd,c)::(Y++((ga,AR (.slice (some ⟨gx,0,none⟩) l.length l.length) live peak)::(gx,B l)::S)))++(((gp,PR (PT (k+1)) hs ms ts cs ds er)::(gr,RD v ((s.c.j % 8:Nat):Int) used en)::(X++E))++rs)=(gd,c)::((Y++((ga,AR (.slice (some ⟨gx,0,none⟩) l.length l.length) live peak)::(gx,B l)::S))++((gp,PR (PT (k+1)) hs ms ts cs ds er)::(gr,RD v ((s.c.j % 8:Nat):Int) used en)::(X++(E++rs)))):=fun c=>by
  simp only [l_a,List.cons_append]
 rw [eR] at hm ⊢;cases hbk:s.bk with
|none =>
  obtain rfl:=hz.2 hbk;have e:s.W=s.st:=by rw [Dk.W,hbk];exact Int.add_zero _
  rw [e];refine (A7Y gd bud md ga gr _ sv s.m s.p s.q s.out.length s.st s.told s.all s.e w0 w _ ss v _ used en (hm.perm A4M) s0 s1 hu0 hu1).mono ?_;rintro x w' ⟨rfl,hm2⟩;exact ⟨rfl,hm2.perm A4M.symm⟩
|some wk =>
  have he:s.e=0:=by
   by_cases h:s.e=0
   ·exact h
   ·exact absurd ((hno h).symm.trans hbk) (by intro h;cases h)
  obtain ⟨_,hBk⟩:=hh he;rw [BkR,hbk] at hBk;obtain ⟨gw,cs',t,fv,fn,fr,fs,ft,rfl,rfl,hW,_,hkl,_,hst,_,hbd⟩:=hBk;have e:s.W=s.st+wk.st:=by rw [Dk.W,hbk]
  have hro:=(A39 (col:=wk.col) (ix:=wk.ix) (d:=wk.d) (by assumption) (wk.col.length - wk.k) wk.r).1;have es:s.W+used=s.st+used+wk.st:=by omega
  rw [es];refine (A7X t fv fn fr fs ft hW.kd gw cs' wk.st gd bud md ga gr _ sv s.m s.p s.q s.out.length s.st s.told s.all s.e w0 w _ ss v _ used en (hm.perm (A4M.cons _)) (h_ fun W f R h=>hW.steps W f R h) s0 s1 hu0 hu1 hst (by omega)).mono ?_;rintro x w' ⟨rfl,hm2⟩;exact ⟨rfl,hm2.perm (A4M.cons _).symm⟩
end
theorem Rsl.sh (r:Rsl):∃ b z e,r.val=.tuple #[.int .u8 b,.int .u8 z,.int .i64 e]/\((z=1/\r=.byte b)\/(z=2/\r=.need)\/(z=3/\e=0/\r=.fin)\/(z=4/\r=.bad e)):=by
 cases r with
|byte b=>exact ⟨_,_,_,rfl,.inl ⟨rfl,rfl⟩⟩
|need=>exact ⟨_,_,_,rfl,.inr (.inl ⟨rfl,rfl⟩)⟩
|fin=>exact ⟨_,_,_,rfl,.inr (.inr (.inl ⟨rfl,rfl,rfl⟩))⟩
|bad e=>exact ⟨_,_,_,rfl,.inr (.inr (.inr ⟨rfl,rfl⟩))⟩
theorem A60 {w:World} {v:Value} {l:I_} (hv:InC .u8 w v l) (hs:Src w v (vs .u8 l)):∀ (i j:Nat),i < j->j<=l.length->i < l.length->∀ W,Below w.heap.size w W->∀ ad c,v=.slice ad l.length c->Src W (.slice (ad.map fun x=>x.add i) (j - i) (c - i)) (vs .u8 (seg l i j)):=fun i j hij hj hi W hb ad c hvv=>by
 subst hvv;have h:=(hv.below hb).sub (i:=i) (j:=j) (by omega) hj;obtain ⟨_,_,e,hl,_⟩:=hv;injection e with _ _ e;subst e;rw [D8,if_neg (by omega)] at h;refine h.A7y (.inl fun h0=>?_);have:=QJ (i:=i) hj;rw [h0] at this;simp at this;omega
section
variable {bud gd gr gp F:Nat} {en:Bool} {s s2:Dk} {w0 w:World} {ss:List Sl} {R R2 X:Rws} {l T rem:I_}
theorem A3l.di {rs:Rws} (h:A3l bud gd gr gp F en rs s R):DI s:=by
 obtain ⟨_,_,_,_,_,h⟩:=h;exact h
theorem A3l.apart (h:A3l bud gd gr gp F en X s R):∃ Q,R=Q++X/\∀ Y,A3l bud gd gr gp F en Y s (Q++Y):=by
 obtain ⟨D,P,rfl,a,b,c⟩:=h;exact ⟨D++P,by rw [l_a],fun Y=>⟨D,P,by rw [l_a],a,b,c⟩⟩
theorem A3l.us (h:A3l bud gd gr gp F en X s R):0<=s.us F/\s.us F<=8 * F:=by
 obtain ⟨D,P,_,hP,_⟩:=h;obtain ⟨k,hs,ms,ts,cs,ds,er,RP,hPe,hk,hz',hp,X,E,v,used,rfl,ht,hB,hl',hj,hu0,hu8,hF1⟩:=hP [];have hus:s.us F=used:=by rw [Dk.us];omega
 omega
theorem DN.hn {r:Rsl} {bud:Int} (h:DN bud en s r s2) (hI:DI s) (hT:TI bud l s T rem) (hr:en=true->rem=[]):∀ n mo,s2.hd=some (n,mo)->∃ R2,A7e ⟨0,0,0⟩ l=.ok (n,R2):=by
 induction h with
|err h=>exact fun n mo h=>(hT.hn n mo h).1
|byte he hb=>exact fun n mo h=>(hT.hn n mo (by rw [<- h,Dk.tell];split<;>rfl)).1
|need he hb hN=>exact fun n mo h=>(hT.hn n mo h).1
|fin he hb hN=>exact fun n mo h=>(hT.hn n mo h).1
|act he hb hN ha hz _ ih=>exact ih (hI.act he hb hN ha hz) (hT.act hI he hb hN hr ha hz)
structure TlS (bud gd gr gp F:Nat) (en:Bool) (l:I_) (X:Rws) (s:Dk) (T rem:I_) (R:Rws):Prop where
 st:A3l bud gd gr gp F en X s R
 ti:TI bud l s T rem
 dw:DW bud s
 py:Pay F s
 tl:(T.length:Int)=s.told
theorem TlS.next (b1:1<=bud) (b2:bud<=1048576) {r:Rsl} (h:TlS bud gd gr gp F en l X s T rem R) (hr:en=true->rem=[]) (hN:DN bud en s r s2) (h2:A3l bud gd gr gp F en X s2 R2):(∀ b,r=.byte b->TlS bud gd gr gp F en l X s2 (T++[b]) rem R2/\s2.be+1<=s.be)/\(r=.need->en=false/\TlS bud gd gr gp F en l X s2 T rem R2)/\(r=.fin->Tgt bud l=(T,0))/\(∀ e,r=.bad e->Tgt bud l=(T,e)/\e ≠ 0):=by
 have hc:=hN.cnt h.st.di;have ht:=hN.ti h.st.di h.ti hr;have hd:=(hN.dw b1 b2 h.st.di h.dw).1;refine ⟨fun b e=>?_,fun e=>?_,fun e=>?_,fun e' e=>?_⟩
 ·subst e;obtain ⟨t1,t2⟩:=hc.t1 rfl;exact ⟨⟨h2,ht,hd,h.py.next hc,by rw [List.length_append,t1,<- h.tl];simp⟩,t2⟩
 ·subst e;obtain ⟨t1,t2⟩:=hc.t2 rfl;refine ⟨?_,h2,ht,hd,h.py.next hc,by rw [t1,<- h.tl]⟩;cases en with
 |false=>rfl
 |true=>exact absurd rfl (hc.need rfl)
 ·subst e;exact ht
 ·subst e;exact ht
theorem TlS.cost (b1:1<=bud) (b2:bud<=1048576) {r:Rsl} (h:TlS bud gd gr gp F en l X s T rem R) (hN:DN bud en s r s2) (h2:A3l bud gd gr gp F en X s2 R2) (hr:en=true->rem=[]) (hF:F<=600) {n:Int} (hn:∀ n' R,A7e ⟨0,0,0⟩ l=.ok (n',R)->n'=n) (he:Pol.er n 2 s2.mdz=0):(s2.W+s2.us F) - (s.W+s.us F)<=Pol.bnd n s2.mdz:=by
 obtain ⟨hd,_,_,hc⟩:=hN.dw b1 b2 h.st.di h.dw;have hb:=hd.bnd b1 b2 (n:=n) (fun n' mo e=>by obtain ⟨R,h⟩:=hN.hn h.st.di h.ti hr n' mo e;exact hn n' R h) he;have hnb:=hd.nb b1 b2;have u1:=h.st.us;have u2:=h2.us
 have:s2.W<=s.W+(2 * (s2.nn * s2.bmx)+s2.bmx):=by
  split at hc
  ·split at hc<;>omega
  ·omega
 omega
end
theorem DW.wf {bud:Nat} {s:Dk} (b1:1<=bud) (b2:bud<=1048576) (h:DW bud s):(Lit.int .u8 s.mdz).wf=true:=by
 cases hd:s.hd with
|none =>
  have:s.mdz=0:=by rw [Dk.mdz,hd]
  rw [this];decide
|some o =>
  obtain ⟨n,mo⟩:=o;obtain ⟨x,y,z⟩:=h.hd n mo hd;obtain ⟨k,rfl⟩:=Int.eq_ofNat_of_zero_le (show 0<=n by omega);obtain ⟨mo',mk,e,_,_,_,_,hw⟩:=A73 b1 b2 (show 1<=k by omega) (by omega) (by rw [z]);rw [z] at e;cases e;have:s.mdz=mo:=by rw [Dk.mdz,hd]
  rw [this];exact hw
theorem DW.wbd {bud:Nat} {s:Dk} {F:Nat} (hI:DI s) (h:DW bud s) (hP:Pay F s) (hF:F<=1000):0<=s.W/\s.W<=100000000000000:=by
 have h0:=hP.s0;have h1:=hP.s1;unfold Dk.W;cases hb:s.bk with
|none=>simp only;omega
|some w =>
  have he:s.e=0:=by
   by_cases h':s.e=0
   ·exact h'
   ·exact absurd ((h.no h').symm.trans hb) (by intro h;cases h)
  obtain ⟨_,hw,_⟩:=hI.bk he w hb;have a:=hw.s0;have b:=hw.s1;have c:=(A39 (col:=w.col) (ix:=w.ix) hw.d (w.col.length - w.k) w.r).1;simp only;omega
theorem A7u {fn:Func} {t u v x:Tmp} (h:fn.results=#[.tmp t,.tmp u,.tmp v,.tmp x]) (tmps:A_) (P:Program) (w:World) :
  (results fn tmps).run P w=.ok (.tuple #[tmps.getD t undef,tmps.getD u undef,tmps.getD v undef,tmps.getD x undef]) w:=by
 simp [results,h]
def slN:Value->Nat
|.slice _ n _=>n
|_=>0
theorem A8e {l:I_} {i j:Nat} (h:i<=j) (hj:j<=l.length):l.drop i=seg l i j++l.drop j:=by
 have e:(l.take j++l.drop j).drop i=(l.take j).drop i++l.drop j:=List.drop_append_of_le_length (by rw [List.length_take];omega);rwa [List.take_append_drop] at e
theorem A8t (n s m:Int):Pol.er n s m=0\/Pol.er n s m=2:=by
 by_cases h:Pol.A3i n s m
 ·exact .inl (Pol.A4n h)
 ·exact .inr (Pol.A7O h)
theorem A8i (v:Value) (l:I_) (bud cut:Nat) (n:Int) (w0 w:World) (hm:Own w0 w [] []) (hb:Bytes l) (hv:InC .u8 w0 v l) (hs:Src w0 v (vs .u8 l)) (hl:l.length<=600) (r1:1<=bud) (r2:bud<=400000) (c1:1<=cut) (c2:cut<=1000) (hn:∀ n' R,A7e ⟨0,0,0⟩ l=.ok (n',R)->n'=n):Calls prog 12 #[v,.int .i64 bud,.int .i64 cut,.int .i64 n] w fun x w'=>∃ X vx,x=.returned (.tuple #[vx,.int .u8 (if (Tgt bud l).2=0 then 3 else 4),.int .i64 (Tgt bud l).2,.bool true])/\Lies 1 X vx (Tgt bud l).1.length (vs .u8 (Tgt bud l).1)/\Own w0 w' X []:=by
 have HSUB:=h_ (A60 hv hs);obtain ⟨ad,cp,rfl,hlc,_⟩:=hv;have HB:=h_ hb;have HNN:=h_ hn;clear hb hs hn;obtain ⟨i34,hE34⟩:=wO;have HE34:=h_ hE34;obtain ⟨i22,hE22⟩:=A4t;have HE22:=h_ hE22;obtain ⟨i23,hEM⟩:=nP;have HEM:=h_ hEM;clear hE34 hE22 hEM;go_enter func12,ntmps12
 go_wp2_with (go_at_call 17;have _t:=hm;refine (A5U bud (by omega) (by omega) hm).mono ?_;clear _t hm;rintro e w1 ⟨gd,gr,gp,R0,rfl,hS0,hm⟩;have HS0:=h_ hS0;clear hS0)
 go_loopw [14,15] (fun u14 u15 wr=>∃ (s:Dk) (T:I_) (X R:Rws) (F k:Nat),u15=.int .i64 k/\k<=1600/\F=min k l.length/\TlS bud gd gr gp F false l X s T (l.drop F) R/\Lies 1 X u14 T.length (vs .u8 T)/\Own w0 wr R []) (fun _ u15 _=>(1601 - intOf u15).toNat)
 case atStart=>exact ⟨Dk0,[],[],R0,0,0,by go_num,by omega,by omega,⟨HS0.out,TI.start,DW.start,Pay.start,rfl⟩,Lies.nil 1,hm⟩
 case round =>
  clear hm HS0;obtain ⟨s,T,X,R,F,k,rfl,hk1,hF,hT,hX,hm⟩:=hrel;obtain ⟨ad3,c3,rfl⟩:=hX.shape;have HX:=h_ hX;have HT:=h_ hT;clear hX hT;rcases Nat.lt_or_ge k l.length with hlt|hlt
  focus
   obtain ⟨h,hh⟩:∃ h,h=min (k+cut) l.length:=⟨_,rfl⟩;have hFk:k=F:=by omega
   subst hFk;have hlen:(seg l k h).length=h - k:=QJ (by omega);have HFB:Hid (k+(seg l k h).length<=1000):=h_ (by omega);have HFh:Hid (k+(seg l k h).length=h):=h_ (by omega);have HMB:Hid (Bytes (seg l k h)):=h_ fun x hx=>HB.out x (List.mem_of_mem_take (List.mem_of_mem_drop hx));have HSRC:Hid (∀ W rr,Own w0 W rr []->Src W (.slice (ad.map fun x=>x.add k) (h - k) (cp - k)) (vs .u8 (seg l k h))):=h_ fun W rr hw=>HSUB.out k h (by omega) (by omega) (by omega) W hw.below _ _ rfl;have hhl:h<=l.length:=by omega
   have hFh:k<=h:=by omega
   have hmin:(if ((l.length:Int)) < ((k:Int)+cut) then ((l.length:Int)) else ((k:Int)+cut))=(h:Int):=by split<;>omega
   have HHH:Hid (h=min (k+cut) l.length):=h_ hh;clear hh hF
   go_wp2_with (first
   |(refine Ad rfl (JQ hm rfl HE34.out (Ac rfl) rfl ?_);clear hm;intro w3 gq hm)
   |(go_at_call 18;have _t:=hm;refine (A6q (m:=seg l k h) HT.out.st HFB.out HMB.out HSRC.out hm).mono ?_;clear _t hm;rintro e w1 ⟨rfl,R2,hS2,hm⟩;have HS2:=h_ hS2;clear hS2))
   have HQ:∃ (en:Bool) (rem:I_) (s':Dk) (F:Nat) (R:Rws),(en=true->rem=[])/\F<=600/\decide ((l.length:Int)<=k)=en/\TlS bud gd gr gp F en l X s' T rem R/\(en=false->F=min (k+cut) l.length/\rem=l.drop F)/\Own w0 w1 R [] :=
    ⟨false,l.drop h,s.feed (seg l k h),h,R2,fun h=>(by cases h),by omega,decide_eq_false (by omega),⟨by have:=HS2.out;rw [HFh.out] at this;exact this,TI.feed (by rw [<- A8e hFh hhl];exact HT.out.ti),HT.out.dw.feed _,by have:=HT.out.py.feed (seg l k h);rw [HFh.out] at this;exact this,HT.out.tl⟩,fun _=>⟨HHH.out,rfl⟩,hm⟩
   clear hm HS2 HT HFB HFh HMB HSRC HHH hmin hFh hhl hlen
  rotate_left
  focus
   have hFl:F=l.length:=by omega
   subst hFl;clear hF
   go_wp2_with (go_at_call 21;have _t:=hm;refine (A6P HT.out.st hm).mono ?_;clear _t hm;rintro e w1 ⟨rfl,R2,hS2,hm⟩;have HS2:=h_ hS2;clear hS2)
   have HQ:∃ (en:Bool) (rem:I_) (s':Dk) (F:Nat) (R:Rws),(en=true->rem=[])/\F<=600/\decide ((l.length:Int)<=k)=en/\TlS bud gd gr gp F en l X s' T rem R/\(en=false->F=min (k+cut) l.length/\rem=l.drop F)/\Own w0 w1 R [] :=
    ⟨true,[],s,l.length,R2,fun _=>rfl,hl,decide_eq_true (by omega),⟨HS2.out,by have:=HT.out.ti;rwa [List.drop_length] at this,HT.out.dw,HT.out.py,HT.out.tl⟩,fun h=>(by cases h),hm⟩
   clear hm HS2 HT
  all_goals
   obtain ⟨en,rem,s1,F,R1,hr,hF6,hg,hT,hFk,hm⟩:=HQ;have HT:=h_ hT;have HR:=h_ hr;have HFK:=h_ hFk;clear hT hr hFk
   go_loopw [14] (fun u14 wr=>∃ (s:Dk) (T:I_) (X R:Rws),TlS bud gd gr gp F en l X s T rem R/\Lies 1 X u14 T.length (vs .u8 T)/\Own w0 wr R []) (fun u14 _=>65536 * F+1 - slN u14)
   case atStart=>exact ⟨s1,T,X,R1,HT.out,HX.out,hm⟩
   case round =>
    clear hm HT HX;obtain ⟨s,T,X,R,hT,hX,hm⟩:=hrel;obtain ⟨ad3,c3,rfl⟩:=hX.shape;have HX:=h_ hX;have HT:=h_ hT;have hW1:=hT.dw.wbd hT.st.di hT.py (by omega);have hU1:=hT.st.us;clear hX hT
    go_upto_region 13 with (first
    |(go_at_call 41;have _t:=hm;refine (A7C HT.out.st HT.out.dw.no hm HT.out.py.s0 (by have:=HT.out.py.s1;omega) (by omega)).mono ?_;clear _t hm;rintro e w1 ⟨rfl,hm⟩)
    |(go_at_call 19;have _t:=hm;refine (A3C (by omega) (by omega) HT.out.st hm HT.out.py.t0 (by have:=HT.out.py.t1;omega) HT.out.py.s0 (by have:=HT.out.py.s1;omega)).mono ?_;clear _t hm;rintro e w1 ⟨r,sz,R2,rfl,hN,hS2,hm⟩;have HNX:=h_ (HT.out.next (by omega) (by omega) HR.out hN hS2);have HW2:=h_ (hN.dw (by omega) (by omega) HT.out.st.di HT.out.dw).1;have HP2:=h_ (HT.out.py.next (hN.cnt HT.out.st.di));have HN:=h_ hN;have HS2:=h_ hS2;clear hN hS2;obtain ⟨b,z,e,hr,hz⟩:=r.sh;rw [hr];clear hr;have HZ:=h_ hz;clear hz)
    |(go_at_call 43;refine (A8d HS2.out hm).mono ?_;rintro e w1 ⟨rfl,rfl⟩)
    |(go_at_call 42;refine cB (Pol.A80 n _ _ (HW2.out.wf (by omega) (by omega))) hm ?_;clear hm;intro w1 hm))
    have hC:=fun he=>HT.out.cost (by omega) (by omega) HN.out HS2.out HR.out hF6 HNN.out (n:=n) he;have hW2:=HW2.out.wbd HS2.out.di HP2.out (by omega);have hU2:=HS2.out.us;have hx:0<=s.W+s.us F/\s.W+s.us F<=100000000010000:=by omega
    clear hW1 hU1 HN;generalize s.W+s.us F=x1 at hC hx ⊢;have w7:IntKind.i64.wrap (sz.W+sz.us F - x1)=sz.W+sz.us F - x1:=i_6;have HC:=h_ hC;clear hC;have her:=A8t n 2 sz.mdz;have q7:Pol.er n 2 sz.mdz=0->decide (Pol.bnd n sz.mdz < sz.W+sz.us F - x1)=false:=fun h=>decide_eq_false (by have:=HC.out h;omega);clear hx hW2 hU2;rcases her with her|her
    all_goals
     rw [her]
     (try replace q7:=q7 her)
     clear her
     go_upto_region 15 with (first
     |(go_at_call 44;refine (A8b HS2.out hm).mono ?_;rintro e w1 ⟨pk,rfl,hpk,rfl⟩;have qpk:decide ((bud:Int) < pk)=false:=d_f)
     |(go_at_call 41;have _t:=hm;refine (A7C HS2.out HW2.out.no hm HP2.out.s0 (by have:=HP2.out.s1;omega) (by omega)).mono ?_;clear _t hm;rintro e w1 ⟨rfl,hm⟩))
     rcases HZ.out with ⟨rfl,hz⟩|⟨rfl,hz⟩|⟨rfl,rfl,hz⟩|⟨rfl,hz⟩
     ·obtain ⟨hB1,hB2⟩:=HNX.out.1 b hz;have htl:=HT.out.tl;have hpy:=HT.out.py.t1;obtain ⟨Q,rfl,hQ⟩:=hB1.st.apart;have HB1:=h_ hB1;have HQ:=h_ hQ;replace hm:=hm.perm List.perm_append_comm;clear HNX HS2 hB1 hQ HZ hz HC
      go_wp2_with (first
      |(refine Ad rfl (JQ hm rfl HE22.out (Ac rfl) rfl ?_);clear hm;intro w gb hm)
      |(refine Ad rfl (GR (A:=[_]) (X:=X) hm rfl HEM.out (Ac rfl) HX.out (Ac rfl) (fun W h=>From.one (h.row 0 rfl)) (tJ rfl) (by omega) (by omega) (by omega) ?_);clear hm;intro X2 v2 w hX2 hm;simp only [s2] at hm;replace hm:=hm.dropRow;obtain ⟨ad2,c2,rfl⟩:=hX2.shape;have HX2:=h_ hX2;clear hX2))
      go_roundw
      case rel=>exact ⟨sz,T++[b],X2,Q++X2,⟨HQ.out X2,HB1.out.ti,HB1.out.dw,HB1.out.py,HB1.out.tl⟩,by rw [List.length_append,P7];exact HX2.out,hm.perm List.perm_append_comm⟩
      case measure =>
       simp only [slN];omega
     ·obtain ⟨rfl,hB1⟩:=HNX.out.2.1 hz;have hkl:¬ (l.length:Int)<=k:=by simpa using hg
      have e2:IntKind.i64.wrap ((k:Int)+cut)=((k+cut:Nat):Int):=by rw [IntWalk.i64_in _ (by omega)];push_cast;rfl
      obtain ⟨hf1,hf2⟩:=HFK.out rfl;have HB1:=h_ hB1;clear HNX HS2 hB1 HZ hz HC;go_wp2;go_roundw
      case rel=>exact ⟨sz,T,X,R2,F,k+cut,by go_num,by omega,hf1,by rw [<- hf2];exact HB1.out,HX.out,hm⟩
      case measure=>simp [intOf];omega
     ·have hTg:=HNX.out.2.2.1 hz;exact xcl
     ·obtain ⟨hTg,hne⟩:=HNX.out.2.2.2 e hz;exact xcl
variable {a:Act} {x:Ending} {ss:List Sl} {bytes e s ty:Nat} {r:Nat × A_} {o:Oper} {P:Program} {A rs:Rws} {i:TypeInfo} {z:Value} {w w0:World}
theorem A7M {K:Value->World->Prop} (hm:Own w0 w rs ss) (he:OW P ty e s bytes i z) (ho:o.op=.buildSlice ty 0 #[]) (h:∀ w' g,Own w0 w' ((g,#[])::rs) ss->K (.slice (some ⟨g,0,none⟩) 0 0) w'):Eff P o a w K:=by
 refine Eff.val (v:=.slice (some ⟨w.heap.size,0,none⟩) 0 0) (w':=w.alloc (.cells #[] e)) ?_ (h _ _ (hm.alloc #[] e));unfold execOp
 have hbs:(Instr.buildSlice ty 0 #[]).run P w=.ok (.slice (some ⟨w.heap.size,0,none⟩) 0 0) (w.alloc (.cells #[] e)):=by
  unfold Instr.buildSlice;simp [r_u he.under,sizeOf,typeInfo,he.info,he.zero,zeroValue,newRow,Instr.fill];rw [show Array.range 0=#[] from rfl,Array.map_empty]
 simp only [ho,s_b,l_y,List.map_nil,hbs,r_o,s_p]
theorem lies0 (g:Nat):Lies 1 [(g,#[])] (.slice (some ⟨g,0,none⟩) 0 0) 0 []:=⟨rfl,.inr ⟨g,0,0,#[],rfl,rfl,Nat.le_refl _,Nat.le_refl _,fun j h=>by cases h⟩⟩
theorem Own.pick (h:Own w0 w rs ss) (i:Nat) (hi:rs[i]?=some r):Own w0 w [r] ss:=h.sub (List.singleton_sublist.2 (l_m hi)) (List.Sublist.refl _)
theorem A8p (m n:Int):(#[.int .i64 m]:A_).size=(#[.int .i64 n]:A_).size:=rfl
theorem Own.delN (h:Own w0 w (A++rs) ss):Own w0 w rs ss:=h.sub (List.sublist_append_right A rs) (List.Sublist.refl _)
theorem A7D {r:HR} (h:WayP x r) (hr:r.ok):∃ a V M n e,x=.returned (.tuple #[.agg (HS a V M n),.int .i64 e])/\((∃ t:HT,r=.go t/\t.ok/\t.a<=3/\a=t.a/\V=t.V/\M=t.M/\n=0/\e=0)\/(r=.done n/\a=4/\e=0)\/(r=.bad e/\e ≠ 0)):=by
 cases r with
|go t =>
  refine ⟨t.a,t.V,t.M,0,0,h,.inl ⟨t,rfl,hr,?_,rfl,rfl,rfl,rfl,rfl⟩⟩;rcases hr with h|h<;>omega
|done n=>exact ⟨4,0,0,n,0,h,.inr (.inl ⟨rfl,rfl,rfl⟩)⟩
|bad e =>
  obtain ⟨a,V,M,n,h⟩:=h;exact ⟨a,V,M,n,e,h,.inr (.inr ⟨rfl,by rcases hr with h|h|h<;>omega⟩)⟩
def A7q (l:I_):Int × Int:=match A7e ⟨0,0,0⟩ l with
|.ok (n,_)=>(n,0)
|.error e=>(0,e)
theorem A7U (v:Value) (l:I_) (w:World) (hv:InC .u8 w v l) (hb:Bytes l) (hn:l.length<=1000):Calls prog 39 #[v] w fun x w'=>∃ v2,x=.returned (.tuple #[.agg #[.int .i64 (A7q l).1],v2,.int .i64 (A7q l).2])/\Below w.heap.size w w':=by
 have HI:Hid (∀ W,Below w.heap.size w W->In .u8 W v l):=h_ fun W h=>(hv.below h).zu;obtain ⟨ad,cp,rfl,hlc,_⟩:=hv
 have HC:Hid (∀ W,Below w.heap.size w W->∀ k,k < l.length->∃ A,ad=some A/\W.cell? (A.add k)=some (.int .u8 (gi l k))):=h_ fun W h k hk=>by
  exact xdr
 obtain ⟨i3,hE⟩:=Md;have HE:=h_ hE;obtain ⟨i4,hEM⟩:=nP;have HEM:=h_ hEM;have HB:=h_ hb;clear hE hEM hb;go_enter func39,ntmps39;have hm:=Own.nil w
 go_wp2_with (first
 |(with_reducible first|(refine wa 80 hm qg ?_;clear hm;intro w2 g2 hm)|(refine wa 137 hm Nc ?_;clear hm;intro w5 g5 hm)))
 go_loopw [6] (fun u wr=>∃ (k:Nat) (t:HT),k<=l.length/\u=.int .i64 k/\t.ok/\A7e ⟨0,0,0⟩ l=A7e t (l.drop k)/\∃ rs,Own w wr ((g5,t.v)::(g2,#[.int .i64 0])::rs) []) (fun u _=>l.length - (intOf u).toNat)
 case atStart=>exact ⟨0,⟨0,0,0⟩,by omega,rfl,.inl ⟨by decide,by decide,rfl,rfl⟩,rfl,[],hm⟩
 case round =>
  clear hm;obtain ⟨k,t,hk,rfl,ht,hR,rs,hm⟩:=hrel;by_cases hlt:k < l.length
  ·obtain ⟨A,rfl,hA0⟩:=HC.out _ hm.below k hlt
   have HA:Hid (∀ W (r2:Rws),Own w W r2 []->W.cell? (A.add k)=some (.int .u8 (gi l k))):=h_ fun W r2 h=>by
    obtain ⟨A2,he,h2⟩:=HC.out _ h.below k hlt;cases he;exact h2
   have hs:=HB.out (gi l k) (by rw [BZ l k hlt];exact List.getElem_mem _);have hk1:k+1<=l.length:=hlt;rw [List.drop_eq_getElem_cons hlt,<- BZ l k hlt,A7e] at hR;have CN:=h_ (fun w=>rway t ht (gi l k) hs.1 (by omega) w);have HOK:=h_ (HT.step_ok ht hs.1 (show gi l k<=255 by omega));have HR:=h_ hR;clear hA0 hR hs;generalize gi l k=x at *;generalize t.step x=r at *;obtain ⟨a,V,M⟩:=t;simp only [HT.v] at hm CN
   go_upto_region 5 with (first
     |(with_reducible (first|refine wl 3 0 hm ?_|refine wl 3 1 hm ?_|refine wl 3 2 hm ?_|refine wl 3 3 hm ?_))
     |(with_reducible (first|refine wla 137 0 hm ?_|refine wla 137 1 hm ?_|refine wla 137 2 hm ?_|refine wla 137 3 hm ?_))
     |(with_reducible (first|refine ws 80 0 hm ?_|refine ws 80 1 hm ?_|refine ws 80 2 hm ?_|refine ws 80 3 hm ?_|refine wu 80 0 hm ?_|refine wu 80 1 hm ?_|refine wu 80 2 hm ?_|refine wu 80 3 hm ?_);clear hm;intro w hm)
     |(with_reducible (first|refine ws 137 0 hm ?_|refine ws 137 1 hm ?_|refine ws 137 2 hm ?_|refine ws 137 3 hm ?_|refine wu 137 0 hm ?_|refine wu 137 1 hm ?_|refine wu 137 2 hm ?_|refine wu 137 3 hm ?_);clear hm;intro w hm)
     |(with_reducible first|(refine wa 80 hm zr80 ?_;clear hm;intro w g hm)|(refine wa 137 hm NK ?_;clear hm;intro w g hm)))
   refine rO hm 12 (.rds [(0,true),(1,false),(2,false),(3,false),(4,true)] (.two 5 (.rds [(6,false),(7,false),(8,false)] (.one 9 (.one 10 (.rds [(11,false)] .done)))) 9 (.one 5 (.rds [(6,false),(7,false),(8,false)] (.one 10 (.rds [(11,false)] .done)))))) ?_;clear hm;intro w hm;simp only [KT.rds]
   (first|(refine K_m rfl rfl (fun W hm=>lda 0 hm rfl rfl rfl (ag rfl)) ?_)|(refine K_m rfl rfl (fun W hm=>lda 1 hm rfl rfl rfl (ag rfl)) ?_)|(refine K_m rfl rfl (fun W hm=>lda 2 hm rfl rfl rfl (ag rfl)) ?_)|(refine K_m rfl rfl (fun W hm=>lda 3 hm rfl rfl rfl (ag rfl)) ?_))
   try simp only [Act.put,s3]
   iterate 2 refine kq ?_
   (refine K_p rfl rfl (fun W=>Am rfl HE.out rfl rfl rfl hlt) ?_)
   try simp only [Act.put,s3]
   refine km (fun W hm=>AU rfl rfl FV (HA.out _ _ hm)) ?_;refine au ?_ ?_
   focus
    refine DJ rfl rfl (fun K hK=>?_);go_simp;refine (CN.out _).mono ?_;rintro e w1 ⟨h1,hb⟩;obtain ⟨a2,V2,M2,n2,e2,rfl,hv⟩:=A7D h1 HOK.out;replace hm:=hm.call hb;clear hb h1;refine hK _ _ ⟨fun W=>Own _ W _ _,fun _ h=>h,(by first|exact hm|exact hm.dropRow),?_⟩;clear hK K
    try simp only [Act.put,s3]
    iterate 3 refine kq ?_
    refine Bo rfl rfl (Dl hm rfl Nc ?_);clear hm;intro w g hm;refine ⟨fun W=>Own _ W _ _,fun _ h=>h,hm.dropRow,?_⟩
    try simp only [Act.put,s3]
    refine Bo rfl rfl (Aw 0 hm rfl rfl (Ac rfl) rfl (OI _ _ _ _) (A1B _ _ _ _ _ _ _ _) (XL _ _ _ _) ?_);clear hm;intro w hm
    try simp only [puts,s2,List.set,List.eraseIdx,s3] at hm
    refine ⟨fun W=>Own _ W _ _,fun _ h=>h,hm.dropRow,?_⟩
    try simp only [Act.put,s3]
    refine kq ?_;refine Ba ?_;go_simp
   rotate_left
   focus
    refine Bo rfl rfl (Dl hm rfl Nc ?_);clear hm;intro w g hm;refine ⟨fun W=>Own _ W _ _,fun _ h=>h,hm.dropRow,?_⟩
    try simp only [Act.put,s3]
    refine DJ rfl rfl (fun K hK=>?_);go_simp;refine (CN.out _).mono ?_;rintro e w1 ⟨h1,hb⟩;obtain ⟨a2,V2,M2,n2,e2,rfl,hv⟩:=A7D h1 HOK.out;replace hm:=hm.call hb;clear hb h1;refine hK _ _ ⟨fun W=>Own _ W _ _,fun _ h=>h,(by first|exact hm|exact hm.dropRow),?_⟩;clear hK K
    try simp only [Act.put,s3]
    iterate 3 refine kq ?_
    refine Bo rfl rfl (Aw 0 hm rfl rfl (Ac rfl) rfl (OI _ _ _ _) (A1B _ _ _ _ _ _ _ _) (XL _ _ _ _) ?_);clear hm;intro w hm
    try simp only [puts,s2,List.set,List.eraseIdx,s3] at hm
    refine ⟨fun W=>Own _ W _ _,fun _ h=>h,hm.dropRow,?_⟩
    try simp only [Act.put,s3]
    refine kq ?_;refine Ba ?_;go_simp
   all_goals
    rcases hv with ⟨t2,rfl,ht2,ha,rfl,rfl,rfl,rfl,rfl⟩|⟨rfl,rfl,rfl⟩|⟨rfl,he⟩
    ·have q4:decide (t2.a=4)=false:=d_f;have q4':(t2.a == 4)=false:=by simpa using q4
     go_wp2_with (first
      |(with_reducible first|(refine wla 137 0 hm ?_)|(refine ws 137 1 hm ?_;clear hm;intro w hm)|(refine wl 3 1 hm ?_)))
     go_roundw
     case rel=>exact ⟨k+1,t2,by omega,by go_num,ht2,HR.out,_,hm.dropRow⟩
     case measure=>simp [intOf];omega
    ·have HN:Hid (A7q l=(n2,0)):=h_ (by rw [A7q,HR.out])
     go_upto_region 10 with (first
       |(with_reducible first|(refine wla 137 0 hm ?_)|(refine ws 137 1 hm ?_;clear hm;intro w hm)|(refine wl 3 1 hm ?_)))
     refine NM (S:=fun W=>Own _ W [(g5,HS 4 V2 M2 n2)] []) hm (fun W h=>h.pick 1 rfl) 12 (.rds [(0,false),(1,true),(2,false),(4,false),(5,false),(6,false),(7,false)] (.one 3 (.one 8 (.one 9 (.rds [(10,false),(11,false)] .done))))) rfl (by kernel_rfl) rfl (by kernel_rfl) (fun _ _ d _ _ h=>by cases d<;>exact h) ?_;clear hm;intro w hm;simp only [KT.rds];refine kq ?_;refine km (fun W hm=>ld 0 hm rfl rfl rfl (ot rfl) rfl) ?_
     (refine K_p rfl rfl (fun W=>Xn rfl rfl) ?_)
     try simp only [Act.put,s3]
     iterate 2 refine kq ?_
     (refine K_p rfl rfl (fun W=>by go_simp;(first|(rw [IntWalk.i64_in _ (by omega)];done)|(rw [IntWalk.i64_in _ (by omega)];rfl)|rfl)) ?_)
     try simp only [Act.put,s3]
     (refine K_p rfl rfl (fun W=>A2Y (l:=k+1) (h:=l.length) rfl HE.out rfl (.inr ⟨_,rfl⟩) (.inl ⟨rfl,rfl⟩) hk1 hlc) ?_)
     try simp only [Act.put,s3]
     refine Bo rfl rfl (A7M hm HEM.out rfl ?_);clear hm;intro w gz hm;refine ⟨fun W=>Own _ W [_] _,fun _ h=>h,(by first|exact hm.pick 2 rfl|exact hm.pick 1 rfl),?_⟩
     try simp only [Act.put,s3]
     refine Bo rfl rfl (GR (A:=[]) (X:=[(gz,#[])]) hm rfl HEM.out (Ac rfl) (lies0 gz) (Ac rfl) (fun W h=>From.tK (In.from (HI.out W h.below) hk1 hlc)) (Ic _ _) (by rw [Ai,List.length_drop];omega) (by rw [Ai,List.length_drop];omega) (by omega) ?_);clear hm;intro X2 v3 w hX2 hm';have hm:=hm'.delN (A:=X2);clear hm' hX2;refine ⟨fun W=>Own _ W [_] _,fun _ h=>h,(by first|exact hm.pick 2 rfl|exact hm.pick 1 rfl),?_⟩
     try simp only [Act.put,s3]
     first
     |refine Bo rfl rfl (Aw 2 hm rfl rfl (Ac rfl) rfl (A0S _) rfl (A8c _) ?_)
     |refine Bo rfl rfl (Aw 3 hm rfl rfl (Ac rfl) rfl (A0S _) rfl (A8c _) ?_)
     clear hm;intro w hm
     try simp only [puts,s2,List.set,List.eraseIdx,s3] at hm
     refine ⟨fun W=>Own _ W [_] _,fun _ h=>h,(by first|exact hm.pick 2 rfl|exact hm.pick 1 rfl),?_⟩
     try simp only [Act.put,s3]
     iterate 2 refine kq ?_
     refine Ba ?_;go_simp;go_wp2;exact xf6
    ·have HN:Hid (A7q l=(0,e2)):=h_ (by rw [A7q,HR.out]);have q1:(e2 != 0)=true:=by simpa using he
     go_wp2_with (first
      |(with_reducible refine gBu (t:=80) ?_;(refine A8 rfl (Dq (cs:=#[.int .i64 0]) rfl (by kernel_rfl)) ?_))
      |(with_reducible (first|refine ws 80 1 hm ?_|refine ws 80 2 hm ?_);clear hm;intro w hm))
     exact xf6
  ·obtain rfl:l.length=k:=by omega
   rw [List.drop_length,A7e] at hR;have HN:Hid (A7q l=(0,50)):=h_ (by rw [A7q,hR]);clear hR;simp only [HT.v] at hm
   go_wp2_with (first
   |(with_reducible refine gBu (t:=80) ?_;(refine A8 rfl (Dq (cs:=#[.int .i64 0]) rfl (by kernel_rfl)) ?_))
   |(with_reducible (first|refine ws 80 1 hm ?_|refine ws 80 2 hm ?_);clear hm;intro w hm))
   refine b_r (Ae rfl rfl (hm.row 1 rfl) (A0S _)) rfl ?_;exact xc9
theorem A7V (v:Value) (l:I_) (w:World) (hv:InC .u8 w v l) (hb:Bytes l) (hn:l.length<=1000):Calls prog 10 #[v] w (RB w (.int .i64 (if (A7q l).2=0 then (A7q l).1 else 0))):=by
 have CT:=h_ (A7U v l w hv hb hn);generalize (A7q l).1=n at *;generalize (A7q l).2=e at *;clear hv hb hn;by_cases he:e=0
 ·subst he;exact xhq
 ·have q1:(e != 0)=true:=by simpa using he
  rw [if_neg he];exact xhq
end Go.Proofs.YtkpbhdhkdonghaaGreat
