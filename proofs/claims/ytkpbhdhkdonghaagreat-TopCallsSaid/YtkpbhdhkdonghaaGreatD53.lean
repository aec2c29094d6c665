/-
  Part 53 of the proof.
-/
import Derived.Test.YtkpbhdhkdonghaaGreatD10
import Derived.Test.YtkpbhdhkdonghaaGreatD25
import Derived.Test.YtkpbhdhkdonghaaGreatD52
set_option linter.all false
namespace Go.Proofs.YtkpbhdhkdonghaaGreat
set_option maxHeartbeats 4000000
set_option maxRecDepth 100000
open Go Tryz Go.RowKit
variable {en:Bool} {T y z:Int} {l:I_} {F bud ch gd gp gr:Nat} {rs:Rws} {w:World}
theorem tcl_1 (v:Value) (l:I_) (room cut:Int) (w:World) (hv:In .u8 w v l)  (p1:400 < l.length):Calls prog 5 #[v,.int .i64 room,.int .i64 cut] w (RB w (.bool true)):=by
 obtain ⟨ad,cp,rfl,_⟩:=hv;generalize l.length=n at *;have q1:decide ((400:Int) < n)=true:=d_t;have q1':decide (400 < n)=true:=d_t;go_enter func5,ntmps5;have hm:=Own.nil w
 go_wp2_with (go_at_call 9;refine (O9 _).mono ?_;rintro e w1 ⟨rfl,hb9⟩;replace hm:=hm.call hb9;clear hb9)
 go_ret;exact ⟨rfl,hm.below⟩
theorem tcl_2 (v:Value) (l:I_) (room cut:Int) (w:World) (hv:In .u8 w v l) (p1:¬ 400 < l.length) (p2:room < 1):Calls prog 5 #[v,.int .i64 room,.int .i64 cut] w (RB w (.bool true)):=by
 obtain ⟨ad,cp,rfl,_⟩:=hv;generalize l.length=n at *;have q1:decide ((400:Int) < n)=false:=d_f;have q2:decide (room < 1)=true:=d_t;have q1':decide (400 < n)=false:=d_f;go_enter func5,ntmps5;have hm:=Own.nil w
 go_wp2_with (go_at_call 9;refine (O9 _).mono ?_;rintro e w1 ⟨rfl,hb9⟩;replace hm:=hm.call hb9;clear hb9)
 go_ret;exact ⟨rfl,hm.below⟩
theorem tcl_3 (v:Value) (l:I_) (room cut:Int) (w:World) (hv:In .u8 w v l) (p1:¬ 400 < l.length) (p2:¬ room < 1) (p3:400000 < room):Calls prog 5 #[v,.int .i64 room,.int .i64 cut] w (RB w (.bool true)):=by
 obtain ⟨ad,cp,rfl,_⟩:=hv;generalize l.length=n at *;have q1:decide ((400:Int) < n)=false:=d_f;have q2:decide (room < 1)=false:=d_f;have q3:decide (400000 < room)=true:=d_t;have q1':decide (400 < n)=false:=d_f;go_enter func5,ntmps5;have hm:=Own.nil w
 go_wp2_with (go_at_call 9;refine (O9 _).mono ?_;rintro e w1 ⟨rfl,hb9⟩;replace hm:=hm.call hb9;clear hb9)
 go_ret;exact ⟨rfl,hm.below⟩
theorem tcl_4 (v:Value) (l:I_) (room cut:Int) (w:World) (hv:In .u8 w v l) (p1:¬ 400 < l.length) (p2:¬ room < 1) (p3:¬ 400000 < room) (p4:cut < 1):Calls prog 5 #[v,.int .i64 room,.int .i64 cut] w (RB w (.bool true)):=by
 obtain ⟨ad,cp,rfl,_⟩:=hv;generalize l.length=n at *;have q1:decide ((400:Int) < n)=false:=d_f;have q2:decide (room < 1)=false:=d_f;have q3:decide (400000 < room)=false:=d_f;have q4:decide (cut < 1)=true:=d_t;have q1':decide (400 < n)=false:=d_f;go_enter func5,ntmps5;have hm:=Own.nil w
 go_wp2_with (go_at_call 9;refine (O9 _).mono ?_;rintro e w1 ⟨rfl,hb9⟩;replace hm:=hm.call hb9;clear hb9)
 go_ret;exact ⟨rfl,hm.below⟩
theorem tcl_5 (v:Value) (l:I_) (room cut:Int) (w:World) (hv:In .u8 w v l) (p1:¬ 400 < l.length) (p2:¬ room < 1) (p3:¬ 400000 < room) (p4:¬ cut < 1) (p5:1000 < cut):Calls prog 5 #[v,.int .i64 room,.int .i64 cut] w (RB w (.bool true)):=by
 obtain ⟨ad,cp,rfl,_⟩:=hv;generalize l.length=n at *;have q1:decide ((400:Int) < n)=false:=d_f;have q2:decide (room < 1)=false:=d_f;have q3:decide (400000 < room)=false:=d_f;have q4:decide (cut < 1)=false:=d_f;have q5:decide (1000 < cut)=true:=d_t;have q1':decide (400 < n)=false:=d_f;go_enter func5,ntmps5;have hm:=Own.nil w
 go_wp2_with (go_at_call 9;refine (O9 _).mono ?_;rintro e w1 ⟨rfl,hb9⟩;replace hm:=hm.call hb9;clear hb9)
 go_ret;exact ⟨rfl,hm.below⟩
def Rsl.Z (r:Rsl) (z:Int):Prop:=(r.isB=true/\z=1)\/(r.isB=false/\z ≠ 1/\(r ≠ .need->z=3\/z=4))
theorem Rsl.shape (r:Rsl):∃ b z e,r.val=.tuple #[.int .u8 b,.int .u8 z,.int .i64 e]/\r.Z z:=by
 cases r with
|byte b=>exact ⟨_,_,_,rfl,.inl ⟨rfl,rfl⟩⟩
|need=>exact ⟨_,_,_,rfl,.inr ⟨rfl,by decide,fun h=>absurd rfl h⟩⟩
|fin=>exact ⟨_,_,_,rfl,.inr ⟨rfl,by decide,fun _=>.inl rfl⟩⟩
|bad e=>exact ⟨_,_,_,rfl,.inr ⟨rfl,by decide,fun _=>.inr rfl⟩⟩
theorem Rsl.Z.next {r:Rsl} {s s2:Dk} (h:r.Z z) (hc:Cnt en s r s2) (hy:y=s.told+ch):(z=1/\y+1=s2.told+ch)\/(z ≠ 1/\y+1=s2.told+ch+1):=by
 rcases h with ⟨a,b⟩|⟨a,b,_⟩
 ·have:=(hc.t1 a).1;exact .inl ⟨b,by omega⟩
 ·have:=(hc.t2 a).1;exact .inr ⟨b,by omega⟩
theorem Rsl.Z.last {r:Rsl} {s s2:Dk} (h:r.Z z) (hc:Cnt true s r s2) (hy:y=s.told - T):(z=1/\y+1=s2.told - T)\/((z=3\/z=4)/\y+1=s2.told - T+1):=by
 rcases h with ⟨a,b⟩|⟨a,b,c⟩
 ·have:=(hc.t1 a).1;exact .inl ⟨b,by omega⟩
 ·have:=(hc.t2 a).1;exact .inr ⟨c (hc.need rfl),by omega⟩
theorem A3l.di {s:Dk} {R:Rws} (h:A3l bud gd gr gp F en rs s R):DI s:=by
 obtain ⟨_,_,_,_,_,h⟩:=h;exact h
theorem Cnt.le {s s2:Dk} {r:Rsl} (h:Cnt en s r s2):s.told<=s2.told:=by
 cases hb:r.isB with
|true=>have:=(h.t1 hb).1;omega
|false=>have:=(h.t2 hb).1;omega
theorem A60 {v:Value} (hv:InC .u8 w v l) (hs:Src w v (vs .u8 l)):∀ (i j:Nat),i < j->j<=l.length->i < l.length->∀ W,Below w.heap.size w W->∀ ad c,v=.slice ad l.length c->Src W (.slice (ad.map fun x=>x.add i) (j - i) (c - i)) (vs .u8 (seg l i j)):=fun i j hij hj hi W hb ad c hvv=>by
 subst hvv;have h:=(hv.below hb).sub (i:=i) (j:=j) (by omega) hj;obtain ⟨_,_,e,hl,_⟩:=hv;injection e with _ _ e;subst e;rw [D8,if_neg (by omega)] at h;refine h.toSrc (.inl fun h0=>?_);have:=QJ (i:=i) hj;rw [h0] at this;simp at this;omega
theorem A70 (v:Value) (l:I_) (room cut:Nat) (w:World) (hb:Bytes l) (hv:InC .u8 w v l) (hs:Src w v (vs .u8 l)) (n2:l.length<=400) (r1:1<=room) (r2:room<=400000) (c1:1<=cut) (c2:cut<=1000):Calls prog 5 #[v,.int .i64 room,.int .i64 cut] w (RB w (.bool true)):=by
 have HVC:Hid (∀ W rs ss,Own w W rs ss->InC .u8 W v l):=h_ fun W rs ss h=>hv.below h.below;have HSUB:=h_ (A60 hv hs);obtain ⟨ad,cp,rfl,hlc,_⟩:=hv;have g1:decide ((400:Int) < l.length)=false:=d_f;have g1b:decide (400 < l.length)=false:=d_f;have g2:decide ((room:Int) < 1)=false:=d_f;have g3:decide ((400000:Int) < room)=false:=d_f;have g4:decide ((cut:Int) < 1)=false:=d_f;have g5:decide ((1000:Int) < cut)=false:=d_f;have HB:=h_ hb;clear hb hs;obtain ⟨i34,hE34⟩:=wO;have HE34:=h_ hE34;clear hE34;go_enter func5,ntmps5;have hm:=Own.nil w
 go_wp2_with (go_at_call 17;have _t:=hm;refine (A5U room (by omega) (by omega) hm).mono ?_;clear _t hm;rintro e w1 ⟨gd,gr,gp,R0,rfl,hS0,hm⟩;have HS0:=h_ hS0;clear hS0)
 go_loopw [9,10,11] (fun u9 u10 u11 wr=>∃ (s:Dk) (R:Rws) (F ch k:Nat),u9=.int .i64 (s.told+ch)/\u10=.int .i64 ch/\u11=.int .i64 k/\ch<=k/\k<=1400/\F=min k l.length/\A3l room gd gr gp F false [] s R/\Pay F s/\Own w wr R []) (fun _ _ u11 _=>(1401 - intOf u11).toNat)
 case atStart=>exact ⟨Dk0,R0,0,0,0,by go_num,by go_num,by go_num,by omega,by omega,by omega,HS0.out,Pay.start,hm⟩
 case round =>
  clear hm HS0;obtain ⟨s,R,F,ch,k,rfl,rfl,rfl,hck,hk1,hF,hS,hP,hm⟩:=hrel;have ht0:=hP.t0;have ht1:=hP.t1;have HS:=h_ hS;have HP:=h_ hP;clear hS hP;by_cases hlt:k < l.length
  ·obtain ⟨h,hh⟩:∃ h,h=min (k+cut) l.length:=⟨_,rfl⟩;have hFk:F=k:=by omega
   subst hFk;have hlen:(seg l F h).length=h - F:=QJ (by omega);have HFB:Hid (F+(seg l F h).length<=1000):=h_ (by omega);have HFh:Hid (F+(seg l F h).length=h):=h_ (by omega);have HMB:Hid (Bytes (seg l F h)):=h_ fun x hx=>HB.out x (List.mem_of_mem_take (List.mem_of_mem_drop hx));have HSRC:Hid (∀ W rr,Own w W rr []->Src W (.slice (ad.map fun x=>x.add F) (h - F) (cp - F)) (vs .u8 (seg l F h))):=h_ fun W rr hw=>HSUB.out F h (by omega) (by omega) (by omega) W hw.below _ _ rfl;have hhl:h<=l.length:=by omega
   have hFh:F<=h:=by omega
   have hhc:h<=F+cut:=by omega
   have hmin:(if ((l.length:Int)) < ((F:Int)+cut) then ((l.length:Int)) else ((F:Int)+cut))=(h:Int):=by split<;>omega
   have HHH:Hid (h=min (F+cut) l.length):=h_ hh;clear hh hF
   go_wp2_with (first
   |(refine Ad rfl (JQ hm rfl HE34.out (Ac rfl) rfl ?_);clear hm;intro w3 gq hm)
   |(go_at_call 18;have _t:=hm;refine (A6p (m:=seg l F h) HS.out HFB.out HMB.out HSRC.out hm).mono ?_;clear _t hm;rintro e w1 ⟨rfl,R2,hS2,hm⟩;have HS2:=h_ hS2;clear hS2))
   have e1:IntKind.i64.wrap ((ch:Int)+1)=((ch+1:Nat):Int):=by rw [IntWalk.i64_in _ (by omega)];push_cast;rfl
   have e2:IntKind.i64.wrap ((F:Int)+cut)=((F+cut:Nat):Int):=by rw [IntWalk.i64_in _ (by omega)];push_cast;rfl
   go_loopw [9,12] (fun u9 u12 wr=>∃ (s:Dk) (R:Rws) (y z:Int),u9=.int .i64 y/\u12=.int .u8 z/\((z=1/\y=s.told+ch)\/(z ≠ 1/\y=s.told+ch+1))/\A3l room gd gr gp h false [] s R/\Pay h s/\Own w wr R []) (fun u9 u12 _=>if intOf u12=1 then (65536 * h+ch+1 - intOf u9).toNat else 0)
   case atStart=>exact ⟨s.feed (seg l F h),R2,s.told+ch,1,rfl,rfl,.inl ⟨rfl,rfl⟩,by have:=HS2.out;rw [HFh.out] at this;exact this,by have:=HP.out.feed (seg l F h);rw [HFh.out] at this;exact this,hm⟩
   case round =>
    clear hm HS2 HP HS HSRC HMB HFB ht0 ht1;obtain ⟨s',R',y,z,rfl,rfl,hyz,hS,hP,hm⟩:=hrel;have ht0:=hP.t0;have ht1:=hP.t1;have HS:=h_ hS;have HP:=h_ hP;clear hS hP;rcases hyz with ⟨rfl,hy⟩|⟨hz,hy⟩
    ·have e3:IntKind.i64.wrap (y+1)=y+1:=i_6
     go_wp2_with (go_at_call 19;have _t:=hm;refine (A3C (by omega) (by omega) HS.out hm HP.out.t0 (by have:=HP.out.t1;omega) HP.out.s0 (by have:=HP.out.s1;omega)).mono ?_;clear _t hm;rintro e w1 ⟨r,s2,R2,rfl,hN,hS2,hm⟩;have HN:=h_ (hN.cnt HS.out.di);have HS2:=h_ hS2;clear hN hS2;obtain ⟨b,z,e,hr,hz⟩:=r.shape;rw [hr];clear hr;have HZ:=h_ hz;clear hz)
     go_roundw
     case rel=>exact ⟨s2,R2,y+1,z,by go_num,rfl,HZ.out.next (ch:=ch) HN.out hy,HS2.out,HP.out.next HN.out,hm⟩
     case measure =>
      have:=(HP.out.next HN.out).t1;by_cases hz1:z=1<;>simp only [intOf,hz1,if_true,if_false]<;>omega
    ·have hz1:decide (z=1)=false:=decide_eq_false hz;go_wp2;go_roundw
     case rel=>exact ⟨s',R',h,ch+1,F+cut,by rw [hy];push_cast;rw [Int.add_assoc],by go_num,by go_num,by omega,by omega,by have:=HHH.out;omega,HS.out,HP.out,hm⟩
     case measure=>simp [intOf];omega
  ·have hFl:F=l.length:=by omega
   subst hFl;clear hF;have e1:IntKind.i64.wrap (s.told+ch)=s.told+ch:=i_6;have e2:IntKind.i64.wrap ((l.length:Int) * 70000)=(l.length:Int) * 70000:=i_6
   go_wp2_with (first
   |(go_at_call 20;refine (A3T HS.out hm).mono ?_;rintro e w1 ⟨rfl,rfl⟩)
   |(go_at_call 21;have _t:=hm;refine (A6P HS.out hm).mono ?_;clear _t hm;rintro e w1 ⟨rfl,R2,hS2,hm⟩;have HS2:=h_ hS2;clear hS2))
   generalize hT:s.told=T at *
   go_loopw [9,14] (fun u9 u14 wr=>∃ (s:Dk) (R:Rws) (y z:Int),u9=.int .i64 y/\u14=.int .u8 z/\((z=1/\y=s.told - T)\/((z=3\/z=4)/\y=s.told - T+1))/\T<=s.told/\A3l room gd gr gp l.length true [] s R/\Pay l.length s/\Own w wr R []) (fun u9 u14 _=>if intOf u14=1 then (65536 * l.length+1 - intOf u9).toNat else 0)
   case atStart=>exact ⟨s,R2,0,1,rfl,rfl,.inl ⟨rfl,by omega⟩,by omega,HS2.out,HP.out,hm⟩
   case round =>
    clear hm HS2 HP HS;obtain ⟨s',R',y,z,rfl,rfl,hyz,hT2,hS,hP,hm⟩:=hrel;have hu0:=hP.t0;have hu1:=hP.t1;have HS:=h_ hS;have HP:=h_ hP;clear hS hP;rcases hyz with ⟨rfl,hy⟩|⟨hz,hy⟩
    ·have e3:IntKind.i64.wrap (y+1)=y+1:=i_6;have e4:decide (y<=(l.length:Int) * 70000)=true:=d_t
     go_wp2_with (go_at_call 19;have _t:=hm;refine (A3C (by omega) (by omega) HS.out hm HP.out.t0 (by have:=HP.out.t1;omega) HP.out.s0 (by have:=HP.out.s1;omega)).mono ?_;clear _t hm;rintro e w1 ⟨r,s2,R2,rfl,hN,hS2,hm⟩;have HN:=h_ (hN.cnt HS.out.di);have HS2:=h_ hS2;clear hN hS2;obtain ⟨b,z,e,hr,hz⟩:=r.shape;rw [hr];clear hr;have HZ:=h_ hz;clear hz)
     go_roundw
     case rel=>exact ⟨s2,R2,y+1,z,by go_num,rfl,HZ.out.last HN.out hy,Int.le_trans hT2 HN.out.le,HS2.out,HP.out.next HN.out,hm⟩
     case measure =>
      have:=(HP.out.next HN.out).t1;by_cases hz1:z=1<;>simp only [intOf,hz1,if_true,if_false]<;>omega
    ·have hz1:decide (z=1)=false:=d_f;have e3:IntKind.i64.wrap (s'.told - T)=s'.told - T:=i_6;have e4:IntKind.i64.wrap (s'.told - T+1)=s'.told - T+1:=i_6;subst hy;rcases hz with rfl|rfl
     ·go_wp2_with (first
      |(go_at_call 20;refine (A3T HS.out hm).mono ?_;rintro e w1 ⟨rfl,rfl⟩)
      |(go_at_call 9;refine (O9 _).mono ?_;rintro e w1 ⟨rfl,hb9⟩;replace hm:=hm.call hb9;clear hb9))
      go_ret;exact ⟨rfl,hm.below⟩
     ·go_wp2_with (first
      |(go_at_call 20;refine (A3T HS.out hm).mono ?_;rintro e w1 ⟨rfl,rfl⟩)
      |(go_at_call 9;refine (O9 _).mono ?_;rintro e w1 ⟨rfl,hb9⟩;replace hm:=hm.call hb9;clear hb9))
      go_ret;exact ⟨rfl,hm.below⟩
end Go.Proofs.YtkpbhdhkdonghaaGreat
