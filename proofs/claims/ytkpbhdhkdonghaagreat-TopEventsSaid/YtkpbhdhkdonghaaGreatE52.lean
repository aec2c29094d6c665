/-
  Part 52 of the proof.
-/
import Derived.Test.YtkpbhdhkdonghaaGreatE08
import Derived.Test.YtkpbhdhkdonghaaGreatE10
import Derived.Test.YtkpbhdhkdonghaaGreatE12
import Derived.Test.YtkpbhdhkdonghaaGreatE19
import Derived.Test.YtkpbhdhkdonghaaGreatE23
import Derived.Test.YtkpbhdhkdonghaaGreatE51
set_option linter.all false
namespace Go.Proofs.YtkpbhdhkdonghaaGreat
set_option maxHeartbeats 4000000
set_option maxRecDepth 100000
open Go Go.RowKit
variable {ss:List Sl} {a b c:Nat × Array Value} {o:Oper} {rs:Rws} {w w0:World}
theorem La (k N M P S:Int) (t:Value) (e:Int):(EVT k N M P S t e)[0]?=some (.int .u8 k):=rfl
theorem EVT_m (k N M P S:Int) (t:Value) (e:Int):(EVT k N M P S t e)[2]?=some (.int .i64 M):=rfl
theorem EVT_t (k N M P S:Int) (t:Value) (e:Int):(EVT k N M P S t e)[5]?=some t:=rfl
theorem TI {a:Act} (ho:o.op=.build 76 #[]):(execOp a.eval o).run Tryz.prog w=.ok (.value (.agg (EVT 0 0 0 0 0 (.slice none 0 0) 0))) w:=Dq ho (by kernel_rfl)
theorem Own.tord {X:Rws} (h:Own w0 w (a::b::(X++(c::rs))) ss):Own w0 w (c::a::(X++rs)) ss:=by
 have e:(b::c::a::(X++rs)).Perm (a::b::(X++(c::rs))):=by
  have e1:=Fq X [c] rs
  have e2:(b::c::a::(X++rs)).Perm (a::b::c::(X++rs)):=((List.Perm.swap a c _).cons b).trans (List.Perm.swap a b _)
  exact e2.trans ((e1.cons b).cons a)
 exact (h.perm e).dropRow
theorem Own.gird (h:Own w0 w (a::b::c::[]) ss):Own w0 w (c::a::([]++[b])) ss:=h.perm ((List.Perm.swap a c _).trans ((List.Perm.swap b c _).cons a))
theorem A1K (v:Value) (l:List Int) (w0:World) (hv:InC .u8 w0 v l) (hs:Src w0 v (vs .u8 l)) (hb:Bytes l) (hn:l.length<=600):Calls Tryz.prog 8 #[v] w0 (RB w0 (.bool true)):=by
 have hI:=hv.zu
 obtain ⟨ad,cp,rfl,hlc,_⟩:=hv
 have HVC:Hid (∀ W rs ss,Own w0 W rs ss->InC .u8 W (.slice ad l.length cp) l):=Lib.hid fun W rs ss h=>by
  obtain ⟨a2,c2,he,h2⟩:=hI.below h.below
  cases he
  exact ⟨_,_,rfl,hlc,h2⟩
 have HVS:Hid (∀ W rs ss,Own w0 W rs ss->Src W (.slice ad l.length cp) (vs .u8 l)):=Lib.hid fun W rs ss h=>hs.below h.below
 have HB:=Lib.hid hb
 have C36:Hid (∀ W (gr gp gq:Nat),Own w0 W ((gq,#[.slice ad l.length cp])::(gp,PR0)::(gr,RD (.slice none 0 0) 0 0 false)::[]) []->Calls Tryz.prog 36 #[.pointer (some ⟨gr,0,none⟩),.slice (some ⟨gq,0,none⟩) 1 1] W (ay w0 gr gq (.slice ad l.length cp) [(gp,PR0)] [] ([]++l) 0 0)):=Lib.hid fun W gr gp gq h=>A2D gr gq [] (.slice none 0 0) _ [] l 0 0 w0 W [(gp,PR0)] [] h.gird (.inl ⟨rfl,rfl,rfl⟩) (fun W h=>HVS.out W _ _ h) (by simp;omega)
 have C13:Hid (∀ W rs,Own w0 W rs []->Calls Tryz.prog 13 #[.slice ad l.length cp] W (A1z w0 (Ij l) rs [])):=Lib.hid fun W rs h=>sH _ l w0 W rs [] h (fun W h=>HVC.out W _ _ h) HB.out (by omega)
 obtain ⟨i34,hE34⟩:=wO
 have HE34:=Lib.hid hE34
 clear hE34 hb hs hI
 go_enter Tryz.func8,Tryz.ntmps8
 have hm:=Own.nil w0
 go_upto_region 12 with (first
  |(go_at_call 34;have _t:=hm;refine (brnew _ _ _ _ hm).mono ?_;clear _t hm;rintro x w1 ⟨gr,rfl,hm⟩)
  |(go_at_call 35;have _t:=hm;refine (pnew _ _ _ _ hm).mono ?_;clear _t hm;rintro x w1 ⟨gp,rfl,hm⟩)
  |(refine Ad rfl (JQ hm rfl HE34.out (Ac rfl) rfl ?_);clear hm;intro w gq hm)
  |(go_at_call 36;have _t:=hm;refine (C36.out _ _ _ _ hm).mono ?_;clear _t hm;rintro x w1 ⟨rfl,X,vR,hT,hm⟩;obtain ⟨adr,cr,rfl⟩:=hT.shape;have HT:=Lib.hid hT;clear hT)
  |(go_at_call 37;have _t:=hm;refine (brend _ _ _ _ _ _ _ _ hm).mono ?_;clear _t hm;rintro x w1 ⟨rfl,hm⟩)
  |(go_at_call 13;have _t:=hm;refine (C13.out _ _ hm).mono ?_;clear _t hm;rintro x w1 ⟨Y,vx,e,rfl,he,hY,hm⟩;obtain ⟨adx,cx,rfl⟩:=hY.shape;clear hY;replace hm:=hm.sub (List.sublist_append_right Y _) (List.Sublist.refl _);have HE:=Lib.hid he;clear he;replace hm:=hm.tord)
  |(with_reducible refine gBu (t:=76) ?_;(refine A8 rfl (TI rfl) ?_))
  |(with_reducible refine wa 76 hm BX ?_;clear hm;intro w g12 hm)
  |(with_reducible refine ws 76 0 hm ?_ (h1:=(by with_unfolding_all exact Ak _ _ _ _ _ rfl _));clear hm;intro w hm))
 go_loopw [8,9,10,11,13] (fun u8 u9 u10 u11 u13 wr=>∃ (ended bytes g i:Nat) (m:Int),u8=.int .i64 ended/\u9=.int .i64 bytes/\u10=.int .i64 m/\u11=.int .i64 g/\u13=.int .i64 i/\ended<=i/\bytes<=65536 * i/\g<=65536/\m<=65536/\((∃ c R,EI c m g/\LI (Ij l) c ended bytes g/\i+c.mu<=4801/\Rel gp gr [] c R/\Own w0 wr ((g12,EVT 0 0 0 0 0 (.slice none 0 0) 0)::R) [])\/(∃ kd n m p s v e R,(kd=7\/kd=8)/\i<=4802/\(Ij l).2.1<=ended/\(Ij l).1.length<=bytes/\((Ij l).2.2=true->kd=7/\(Ij l).2.1=ended/\(Ij l).1.length=bytes)/\Own w0 wr ((g12,EVT kd n m p s v e)::R) []))) (fun _ _ _ _ u13 _=>6000 - (intOf u13).toNat)
 case atStart=>exact ⟨0,0,0,0,0,rfl,rfl,rfl,rfl,rfl,by omega,by omega,by omega,by omega,.inl ⟨⟨.head ⟨0,0,0⟩,l,0⟩,_,⟨HB.out,.inl ⟨by decide,by decide,rfl,rfl⟩⟩,LI.start l,by simp only [Cf.mu];omega,Rel.start HT.out HB.out (by omega),hm⟩⟩
 case round =>
  clear hm
  obtain ⟨ended,bytes,g,i,m,rfl,rfl,rfl,rfl,rfl,hi1,hi2,hg,hmm,hh⟩:=hrel
  rcases hh with ⟨c,R,hEI,hLI,hmu,hR,hm⟩|⟨kd,n2,m2,p2,s2,v2,e2,R,hkd,hi3,hr1,hr2,hr3,hm⟩
  ·have HEI:=Lib.hid hEI
   have HLI:=Lib.hid hLI
   have HR:=Lib.hid hR
   have hi6:i<=4801:=by omega
   have HMU0:=Lib.hid hmu
   clear hEI hLI hR hmu
   go_upto_region 15 with (first
    |(with_reducible refine wl 5 0 hm ?_ (hv:=(by with_unfolding_all exact La _ _ _ _ _ _ _)))
    |(go_at_call 38;have _t:=hm;refine (bf HR.out hm).mono ?_;clear _t hm;rintro x w1 ⟨kd,n2,m2,p2,s2,v2,e2,ev,c2,R2,rfl,hv2,hN,hEv,hR2,hm⟩;have HV2:=Lib.hid hv2;have HN:=Lib.hid hN;have HEv:=Lib.hid hEv;have HR2:=Lib.hid hR2;clear hv2 hN hEv hR2)
    |(with_reducible refine wa 76 hm BX ?_;clear hm;intro w g14 hm)
    |(with_reducible refine ws 76 0 hm ?_ (h1:=(by with_unfolding_all exact Ak _ _ _ _ _ HV2.out _));clear hm;intro w hm))
   have hev:=HN.out.ei HEI.out
   cases ev with
  |head q =>
    obtain rfl:kd=2:=HEv.out
    have HMU:Hid (c2.mu < c.mu):=Lib.hid (HN.out.mu rfl)
    have HEI2:=Lib.hid hev.1
    have HLI2:=Lib.hid (HLI.out.head HN.out hev.2)
    clear hev
    go_wp2_with (with_reducible refine wl 5 0 hm ?_ (hv:=(by with_unfolding_all exact La _ _ _ _ _ _ _)))
    go_roundw
    case rel=>exact ⟨ended,bytes,g,i+1,m,by go_num,by go_num,by go_num,by go_num,by go_num,by omega,by omega,by omega,by omega,.inl ⟨c2,R2,HEI2.out,HLI2.out,by have:=HMU.out;have:=HMU0.out;omega,HR2.out,hm.dropRow⟩⟩
    case measure=>simp [intOf];omega
  |block q p s =>
    obtain ⟨rfl,rfl⟩:kd=3/\m2=q:=HEv.out
    obtain ⟨hq,hEI2,hB⟩:=hev
    have HMU:Hid (c2.mu < c.mu):=Lib.hid (HN.out.mu rfl)
    have HEI2:=Lib.hid hEI2
    have HLI2:=Lib.hid (HLI.out.block HN.out)
    clear hEI2 hB
    go_wp2_with (first
     |(with_reducible refine wl 5 0 hm ?_ (hv:=(by with_unfolding_all exact La _ _ _ _ _ _ _)))
     |(with_reducible refine wl 3 0 hm ?_ (hv:=(by with_unfolding_all exact EVT_m _ _ _ _ _ _ _))))
    go_roundw
    case rel=>exact ⟨ended,bytes,0,i+1,m2,by go_num,by go_num,by go_num,by go_num,by go_num,by omega,by omega,by omega,by omega,.inl ⟨c2,R2,HEI2.out,HLI2.out,by have:=HMU.out;have:=HMU0.out;omega,HR2.out,hm.dropRow⟩⟩
    case measure=>simp [intOf];omega
  |bytes t =>
    obtain ⟨rfl,a2,q2,rfl⟩:kd=4/\∃ a c,v2=.slice a t.length c:=HEv.out
    obtain ⟨hB,hle,hEI2,hB2⟩:=hev
    have HMU:Hid (c2.mu < c.mu):=Lib.hid (HN.out.mu rfl)
    have HEI2:Hid (EI c2 m ((g+t.length:Nat):Int)):=Lib.hid (by push_cast;exact hEI2)
    have HLI2:Hid (LI (Ij l) c2 ended bytes ((g+t.length:Nat):Int)):=Lib.hid (by push_cast;exact HLI.out.bytes HN.out hB)
    clear hEI2 hB hB2
    go_wp2_with (first
     |(with_reducible refine wl 5 0 hm ?_ (hv:=(by with_unfolding_all exact La _ _ _ _ _ _ _)))
     |(with_reducible refine wl 22 0 hm ?_ (hv:=(by with_unfolding_all exact EVT_t _ _ _ _ _ _ _))))
    go_roundw
    case rel=>exact ⟨ended,bytes,(g+t.length),i+1,m,by go_num,by go_num,by go_num,by go_num,by go_num,by omega,by omega,by omega,by omega,.inl ⟨c2,R2,HEI2.out,HLI2.out,by have:=HMU.out;have:=HMU0.out;omega,HR2.out,hm.dropRow⟩⟩
    case measure=>simp [intOf];omega
  |U5 q p s =>
    obtain rfl:kd=5:=HEv.out
    obtain ⟨hB,rfl,hEI2,hB2⟩:=hev
    have HMU:Hid (c2.mu < c.mu):=Lib.hid (HN.out.mu rfl)
    have HEI2:=Lib.hid hEI2
    have HLI2:=Lib.hid (HLI.out.U5 HN.out hB hB2)
    clear hEI2 hB hB2
    go_wp2_with (with_reducible refine wl 5 0 hm ?_ (hv:=(by with_unfolding_all exact La _ _ _ _ _ _ _)))
    go_roundw
    case rel=>exact ⟨(ended+1),(bytes+g),g,i+1,g,by go_num,by go_num,by go_num,by go_num,by go_num,by omega,by omega,by omega,by omega,.inl ⟨c2,R2,HEI2.out,HLI2.out,by have:=HMU.out;have:=HMU0.out;omega,HR2.out,hm.dropRow⟩⟩
    case measure=>simp [intOf];omega
  |tail s =>
    obtain rfl:kd=6:=HEv.out
    have HMU:Hid (c2.mu < c.mu):=Lib.hid (HN.out.mu rfl)
    have HEI2:=Lib.hid hev.1
    have HLI2:=Lib.hid (HLI.out.tail HN.out hev.2)
    clear hev
    go_wp2_with (with_reducible refine wl 5 0 hm ?_ (hv:=(by with_unfolding_all exact La _ _ _ _ _ _ _)))
    go_roundw
    case rel=>exact ⟨ended,bytes,g,i+1,m,by go_num,by go_num,by go_num,by go_num,by go_num,by omega,by omega,by omega,by omega,.inl ⟨c2,R2,HEI2.out,HLI2.out,by have:=HMU.out;have:=HMU0.out;omega,HR2.out,hm.dropRow⟩⟩
    case measure=>simp [intOf];omega
  |fin =>
    obtain rfl:kd=7:=HEv.out
    have HF:=Lib.hid (HLI.out.fin HN.out)
    clear hev
    go_wp2_with (first
     |(with_reducible refine wl 5 0 hm ?_ (hv:=(by with_unfolding_all exact La _ _ _ _ _ _ _)))
     |(with_reducible refine wla 76 0 hm ?_)
     |(with_reducible refine ws 76 1 hm ?_ (h1:=(by with_unfolding_all exact Ak _ _ _ _ _ HV2.out _));clear hm;intro w hm))
    go_roundw
    case rel=>exact ⟨ended,bytes,g,i+1,m,by go_num,by go_num,by go_num,by go_num,by go_num,by omega,by omega,by omega,by omega,.inr ⟨7,n2,m2,p2,s2,v2,e2,R2,.inl rfl,by omega,HF.out.1,HF.out.2.1,fun h=>⟨rfl,HF.out.2.2 h⟩,hm.dropRow⟩⟩
    case measure=>simp [intOf];omega
  |bad q =>
    obtain rfl:kd=8:=HEv.out
    have HF:=Lib.hid (HLI.out.bad HN.out)
    clear hev
    go_wp2_with (first
     |(with_reducible refine wl 5 0 hm ?_ (hv:=(by with_unfolding_all exact La _ _ _ _ _ _ _)))
     |(with_reducible refine wla 76 0 hm ?_)
     |(with_reducible refine ws 76 1 hm ?_ (h1:=(by with_unfolding_all exact Ak _ _ _ _ _ HV2.out _));clear hm;intro w hm))
    go_roundw
    case rel=>exact ⟨ended,bytes,g,i+1,m,by go_num,by go_num,by go_num,by go_num,by go_num,by omega,by omega,by omega,by omega,.inr ⟨8,n2,m2,p2,s2,v2,e2,R2,.inr rfl,by omega,HF.out.1,HF.out.2.1,fun h=>absurd h (by rw [HF.out.2.2];decide),hm.dropRow⟩⟩
    case measure=>simp [intOf];omega
  ·generalize Ij l=res at *
   obtain ⟨xs,nb,fin⟩:=res
   simp only at hr1 hr2 hr3
   have q1:decide ((ended:Int) < nb)=false:=decide_eq_false (by omega)
   have q2:decide ((bytes:Int) < xs.length)=false:=decide_eq_false (by omega)
   have q1':decide (ended < nb)=false:=decide_eq_false (by omega)
   have q2':decide (bytes < xs.length)=false:=decide_eq_false (by omega)
   cases fin with
  |true =>
    obtain ⟨rfl,h1,h2⟩:=hr3 rfl
    obtain rfl:e=0:=HE.out.2 rfl
    have q3:((ended:Int) == nb)=true:=beq_iff_eq.2 (by omega)
    have q4:((bytes:Int) == xs.length)=true:=beq_iff_eq.2 (by omega)
    clear hr1 hr2 hr3 h1 h2 hkd
    go_wp2_with (first
      |(with_reducible refine wl 5 0 hm ?_ (hv:=(by with_unfolding_all exact La _ _ _ _ _ _ _)))
      |(go_at_call 9;refine (O9 _).mono ?_;rintro e9 w9 ⟨rfl,hb9⟩;replace hm:=hm.call hb9;clear hb9))
    go_ret
    exact ⟨rfl,hm.below⟩
  |false =>
    have he:¬ e=0:=fun h=>by have:=HE.out.1 h;cases this
    have q3:(e != 0)=true:=bne_iff_ne.2 he
    rcases hkd with rfl|rfl
    ·clear hr1 hr2 hr3 he
     go_wp2_with (first
      |(with_reducible refine wl 5 0 hm ?_ (hv:=(by with_unfolding_all exact La _ _ _ _ _ _ _)))
      |(go_at_call 9;refine (O9 _).mono ?_;rintro e9 w9 ⟨rfl,hb9⟩;replace hm:=hm.call hb9;clear hb9))
     go_ret
     exact ⟨rfl,hm.below⟩
    ·clear hr1 hr2 hr3 he
     go_wp2_with (first
      |(with_reducible refine wl 5 0 hm ?_ (hv:=(by with_unfolding_all exact La _ _ _ _ _ _ _)))
      |(go_at_call 9;refine (O9 _).mono ?_;rintro e9 w9 ⟨rfl,hb9⟩;replace hm:=hm.call hb9;clear hb9))
     go_ret
     exact ⟨rfl,hm.below⟩
theorem zx (v:Value) (l:List Int) (w:World) (hv:InC .u8 w v l) (hn:600 < l.length):Calls Tryz.prog 8 #[v] w (RB w (.bool true)):=by
 obtain ⟨ad,cp,rfl,_⟩:=hv
 generalize l.length=n at *
 have q2:decide ((600:Int) < n)=true:=decide_eq_true (by omega)
 have q2':decide (600 < n)=true:=decide_eq_true hn
 go_enter Tryz.func8,Tryz.ntmps8
 have hm:=Own.nil w
 go_wp2_with (go_at_call 9;refine (O9 _).mono ?_;rintro e9 w9 ⟨rfl,hb9⟩;replace hm:=hm.call hb9;clear hb9)
 go_ret
 exact ⟨rfl,hm.below⟩
end Go.Proofs.YtkpbhdhkdonghaaGreat
