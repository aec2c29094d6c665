/-
  Part 29 of the proof.
-/
import Derived.Test.YtkpbhdhkdonghaaGreatA26
import Derived.Test.YtkpbhdhkdonghaaGreatA28
set_option linter.all false
set_option maxHeartbeats 4000000
set_option maxRecDepth 100000
namespace Go.Proofs.YtkpbhdhkdonghaaGreat
open Go Tryz Go.RowKit
variable {e n:Int} {l:I_} {news:L_} {bud k:Nat} {w:World}
theorem A8r (l:I_):G0 l=Ij l:=by
 rw [G0,Ij,yQ];cases A7e ⟨0,0,0⟩ l with
|error e=>rfl
|ok o=>exact A1C _ _ _ _ _ (by omega)
theorem From.A7y {v:Value} (h:From 1 w v k news):Src w v news:=by
 obtain ⟨hl,h⟩:=h;rcases h with ⟨rfl,_,rfl⟩|⟨ad,c,rfl,hc⟩
 ·exact .inl ⟨rfl,rfl⟩
 ·exact .inr ⟨ad,c,by rw [hl,Nat.mul_one],hc⟩
theorem A7L (u v:Value) (T:I_) (w:World) (hu:Src w u (vs .u8 T)) (hv:Src w v (vs .u8 T)):Calls prog 49 #[u,v] w fun x w'=>x=.returned (.bool true)/\w'=w:=by
 have HU:=h_ hu;have HV:=h_ hv;clear hu hv;go_enter func49,ntmps49
 go_wp2_with (first
 |(refine A8 rfl (A7l (v:=u) (l:=T) rfl underlying22 underlying5 underlying9 rfl HU.out) ?_)
 |(refine A8 rfl (A7l (v:=v) (l:=T) rfl underlying22 underlying5 underlying9 rfl HV.out) ?_)
 |(refine A8 rfl (A7r rfl rfl rfl (b:=true) (by simp)) ?_))
 exact xg7
theorem A7H (v u:Value) (l:I_) (w0 w:World) (rs:Rws) (hm:Own w0 w rs []) (hv:∀ W,Own w0 W rs []->InC .u8 W v l) (hb:Bytes l) (hn:l.length<=1000) (hu:∀ W X,Own w0 W (X++rs) []->Src W u (vs .u8 (Ij l).1)):Calls prog 14 #[v,u] w fun x w'=>x=.returned (.bool (decide ((Ij l).2.2=0)))/\∃ rs',Own w0 w' (rs'++rs) []:=by
 have CR:=h_ (sH v l w0 w rs [] hm hv hb hn);have HU:=h_ hu;clear hm hv hb hn hu;generalize Ij l=o at *;obtain ⟨T,b,e⟩:=o;by_cases he:e=0
 ·subst he;go_enter func14,ntmps14
  go_wp2_with (first
  |(go_at_call 13;refine CR.out.mono ?_;rintro e1 w1 ⟨X,vx,rfl,hX,hm⟩;have HX:=h_ hX;clear hX)
  |(go_at_call 49;refine (A7L _ _ T _ (HU.out _ _ hm) (HX.out.from (A:=[]) hm).A7y).mono ?_;rintro e1 w1 ⟨rfl,rfl⟩))
  go_ret;exact ⟨rfl,X,hm⟩
 ·have q1:(e == 0)=false:=by simpa using he
  rw [show decide (e=0)=false by simpa using he];go_enter func14,ntmps14
  go_wp2_with (first
  |(go_at_call 13;refine CR.out.mono ?_;rintro e1 w1 ⟨X,vx,rfl,hX,hm⟩;have HX:=h_ hX;clear hX))
  go_ret;exact ⟨rfl,X,hm⟩
theorem A8q (h1:1<=n) (h2:n<=65536) (b1:1<=bud) (b2:bud<=1048576):Pol.er n 2 1=0/\(Pol.need n 2 1<=bud->(Pol.pk bud n 2).2=0)/\((bud:Int) < Pol.need n 2 1->Pol.pk bud n 2=(0,230)):=by
 have ha:Pol.A3i n 2 1:=⟨h1,h2,.inr rfl,.inl rfl⟩;have hb:Pol.A61 bud:=⟨by omega,by omega⟩;have e:Pol.pk bud n 2=Pol.pkd bud n 2 3:=by rw [Pol.pk,if_pos ⟨ha,hb⟩]
 obtain ⟨_,m1,m2,_,_⟩:=Pol.A7W ha;refine ⟨Pol.A4n ha,fun h=>?_,fun h=>?_⟩
 ·rw [e,Pol.A8x h]
 ·rw [e,Pol.A8a h m1 m2]
theorem A8y {R:I_} (h:A7e ⟨0,0,0⟩ l=.ok (n,R)) (hp:(Pol.pk bud n 2).2=0):Tgt bud l=((Ij l).1,(Ij l).2.2):=by
 unfold Tgt;rw [h];simp only [hp,if_true,A8r]
theorem A8z {R:I_} (h:A7e ⟨0,0,0⟩ l=.ok (n,R)) (hp:Pol.pk bud n 2=(0,230)):Tgt bud l=([],230):=by
 unfold Tgt;rw [h];simp only [hp];rfl
theorem A8o (h:A7e ⟨0,0,0⟩ l=.error e):Tgt bud l=((Ij l).1,(Ij l).2.2):=by
 unfold Tgt;rw [h];simp only [A8r]
theorem A8j (HL:∀ w,Calls prog 9 #[] w (RB w (.bool true))) (v:Value) (l:I_) (room cut:Nat) (w:World) (hb:Bytes l) (hv:InC .u8 w v l) (hs:Src w v (vs .u8 l)) (n2:l.length<=600) (r1:1<=room) (r2:room<=400000) (c1:1<=cut) (c2:cut<=1000):Calls prog 3 #[v,.int .i64 room,.int .i64 cut] w (RB w (.bool true)):=by
 have HV:Hid (InC .u8 w v l/\Src w v (vs .u8 l)):=h_ ⟨hv,hs⟩;have HB:=h_ hb;have HLV:=h_ HL;have CS:=h_ (A7V v l w hv hb (by omega))
 have hN:∀ n,n=(if (A7q l).2=0 then (A7q l).1 else 0)->∀ n' R,A7e ⟨0,0,0⟩ l=.ok (n',R)->n'=n:=fun n e n' R h=>by
  rw [e,A7q,h];rfl
 have hbad:=fun e (h:A7e ⟨0,0,0⟩ l=.error e)=>A8o (bud:=room) h;have CT:∀ n,n=(if (A7q l).2=0 then (A7q l).1 else 0)->∀ W,Own w W [] []->Calls prog 12 #[v,.int .i64 room,.int .i64 cut,.int .i64 n] W fun x w'=>∃ X vx,x=.returned (.tuple #[vx,.int .u8 (if (Tgt room l).2=0 then 3 else 4),.int .i64 (Tgt room l).2,.bool true])/\Lies 1 X vx (Tgt room l).1.length (vs .u8 (Tgt room l).1)/\Own w w' X []:=fun n e W h=>A8i v l room cut n w W h HB.out HV.out.1 HV.out.2 n2 r1 r2 c1 c2 (hN n e);obtain ⟨ad,cp,rfl,hlc,_⟩:=hv;have g1:decide ((600:Int) < l.length)=false:=d_f;have g1b:decide (600 < l.length)=false:=d_f;have g2:decide ((room:Int) < 1)=false:=d_f;have g3:decide ((400000:Int) < room)=false:=d_f;have g4:decide ((cut:Int) < 1)=false:=d_f
 have g5:decide ((1000:Int) < cut)=false:=d_f;clear hb hs HL hN;obtain ⟨n,hn⟩:∃ n,n=(if (A7q l).2=0 then (A7q l).1 else 0):=⟨_,rfl⟩;rw [<- hn] at CS;replace CT:=CT n hn;have HNN:=h_ hn;clear hn;have CL:Hid (∀ W,Calls prog 11 #[.int .i64 n,.int .u8 2] W (Pol.A4U W (Pol.need n 2 1) (Pol.er n 2 1))):=h_ fun W=>Pol.A3u n 2 W (by decide);by_cases hbud:∃ R,A7e ⟨0,0,0⟩ l=.ok (n,R)/\(room:Int) < Pol.need n 2 1
 ·obtain ⟨R,hR,hlt⟩:=hbud;obtain ⟨k1,k2,_⟩:=Va l ⟨0,0,0⟩ n R (.inl ⟨by decide,by decide,rfl,rfl⟩) HB.out hR;obtain ⟨e1,_,e3⟩:=A8q k1 k2 r1 (show room<=1048576 by omega);rw [A8z hR (e3 hlt)] at CT;rw [e1] at CL;have q1:decide ((room:Int) < Pol.need n 2 1)=true:=decide_eq_true hlt;have HCT:=h_ CT;clear CT hbad hR hlt e1 e3 HNN k1 k2;go_enter func3,ntmps3;have hm:=Own.nil w
  go_wp2_with (first
  |(go_at_call 10;have _t:=hm;refine CS.out.mono ?_;rintro e w1 ⟨rfl,hb⟩;replace hm:=hm.call hb;clear hb _t)
  |(go_at_call 11;refine cB (CL.out _) hm ?_;clear hm;intro w1 hm)
  |(go_at_call 12;have _t:=hm;refine (HCT.out _ hm).mono ?_;clear _t hm;rintro e w1 ⟨X,vx,rfl,hX,hm⟩;obtain ⟨ad3,c3,rfl⟩:=hX.shape;clear hX)
  |(go_at_call 9;refine (HLV.out _).mono ?_;rintro e w1 ⟨rfl,hb⟩;replace hm:=hm.call hb;clear hb))
  go_ret;exact xg6
 ·have hE:(Pol.er n 2 1=2\/(Pol.er n 2 1=0/\decide ((room:Int) < Pol.need n 2 1)=false))/\Tgt room l=((Ij l).1,(Ij l).2.2):=by
   cases hR:A7e ⟨0,0,0⟩ l with
  |error e =>
    have h0:n=0:=by rw [HNN.out,A7q,hR];simp
    exact ⟨.inl (by rw [h0];exact Pol.A7O (fun h=>by have:=h.1;omega)),hbad e hR⟩
  |ok o =>
    obtain ⟨n',R⟩:=o;have h0:n=n':=by rw [HNN.out,A7q,hR];rfl
    subst h0;obtain ⟨k1,k2,_⟩:=Va l ⟨0,0,0⟩ n R (.inl ⟨by decide,by decide,rfl,rfl⟩) HB.out hR;obtain ⟨e1,e2,_⟩:=A8q k1 k2 r1 (show room<=1048576 by omega)
    have hle:Pol.need n 2 1<=room:=by
     by_cases h:(room:Int) < Pol.need n 2 1
     ·exact absurd ⟨R,hR,h⟩ hbud
     ·omega
    exact ⟨.inr ⟨e1,decide_eq_false (by omega)⟩,A8y hR (e2 hle)⟩
  obtain ⟨hE,hT⟩:=hE;rw [hT] at CT;have CR:Hid (∀ W X,Own w W X []->Calls prog 13 #[.slice ad l.length cp] W (A1z w (Ij l) X [])):=h_ fun W X h=>sH _ l w W X [] h (fun W h=>HV.out.1.below h.below) HB.out (by omega);have CV:Hid (∀ W Y X vx,Own w W (Y++X) []->Lies 1 X vx (Ij l).1.length (vs .u8 (Ij l).1)->Calls prog 14 #[.slice ad l.length cp,vx] W fun x w'=>x=.returned (.bool (decide ((Ij l).2.2=0)))/\∃ rs',Own w w' rs' []):=h_ fun W Y X vx h hX=>(A7H _ vx l w W (Y++X) h (fun W h=>HV.out.1.below h.below) HB.out (by omega) (fun W Z h=>(hX.from (A:=Z++Y) (rs:=[]) (by rw [List.append_nil,l_a];exact h)).A7y)).mono fun x w' h=>⟨h.1,by obtain ⟨rs',h2⟩:=h.2;exact ⟨_,h2⟩⟩;have HCT:=h_ CT;clear CT hbad hT hbud HNN HB;generalize Ij l=o at *;obtain ⟨T,b,e⟩:=o;generalize Pol.er n 2 1=E at *;generalize Pol.need n 2 1=N at *;have hee:e=0\/e ≠ 0:=by omega
  rcases hE with rfl|⟨rfl,q1⟩
  all_goals
   rcases hee with rfl|he
   focus
    go_enter func3,ntmps3;have hm:=Own.nil w
    go_wp2_with (first
    |(go_at_call 10;have _t:=hm;refine CS.out.mono ?_;rintro e w1 ⟨rfl,hb⟩;replace hm:=hm.call hb;clear hb _t)
    |(go_at_call 11;refine cB (CL.out _) hm ?_;clear hm;intro w1 hm)
    |(go_at_call 12;have _t:=hm;refine (HCT.out _ hm).mono ?_;clear _t hm;rintro e w1 ⟨X,vx,rfl,hX,hm⟩;obtain ⟨ad3,c3,rfl⟩:=hX.shape;have HX:=h_ hX;clear hX)
    |(go_at_call 13;have _t:=hm;refine (CR.out _ _ hm).mono ?_;clear _t hm;rintro e w1 ⟨Y,vy,rfl,hY,hm⟩;obtain ⟨ad4,c4,rfl⟩:=hY.shape;have HY:=h_ hY;clear hY)
    |(refine A8 rfl (A7l (v:=.slice ad3 T.length c3) (l:=T) rfl underlying22 underlying5 underlying9 rfl (HX.out.from (A:=Y) (rs:=[]) (by rw [List.append_nil];exact hm)).A7y) ?_)
    |(refine A8 rfl (A7l (v:=.slice ad4 T.length c4) (l:=T) rfl underlying22 underlying5 underlying9 rfl (HY.out.from (A:=[]) hm).A7y) ?_)
    |(refine A8 rfl (A7r rfl rfl rfl (b:=true) (by simp)) ?_)
    |(go_at_call 14;have _t:=hm;refine (CV.out _ _ _ _ hm HX.out).mono ?_;clear _t hm;rintro e w1 ⟨rfl,rs',hm⟩)
    |(go_at_call 9;refine (HLV.out _).mono ?_;rintro e w1 ⟨rfl,hb⟩;replace hm:=hm.call hb;clear hb))
    go_ret;exact ⟨rfl,hm.below⟩
   have CT2:=HCT.out;simp only [if_neg he] at CT2;have CV2:=CV.out;simp only [decide_eq_false he] at CV2;have HCT:=h_ CT2;have CV:=h_ CV2;clear CT2 CV2;have q9:(e == e)=true:=by simp
   have q10:decide (e=e)=true:=by simp
   go_enter func3,ntmps3;have hm:=Own.nil w
   go_wp2_with (first
   |(go_at_call 10;have _t:=hm;refine CS.out.mono ?_;rintro e w1 ⟨rfl,hb⟩;replace hm:=hm.call hb;clear hb _t)
   |(go_at_call 11;refine cB (CL.out _) hm ?_;clear hm;intro w1 hm)
   |(go_at_call 12;have _t:=hm;refine (HCT.out _ hm).mono ?_;clear _t hm;rintro e w1 ⟨X,vx,rfl,hX,hm⟩;obtain ⟨ad3,c3,rfl⟩:=hX.shape;have HX:=h_ hX;clear hX)
   |(go_at_call 13;have _t:=hm;refine (CR.out _ _ hm).mono ?_;clear _t hm;rintro e w1 ⟨Y,vy,rfl,hY,hm⟩;obtain ⟨ad4,c4,rfl⟩:=hY.shape;have HY:=h_ hY;clear hY)
   |(refine A8 rfl (A7l (v:=.slice ad3 T.length c3) (l:=T) rfl underlying22 underlying5 underlying9 rfl (HX.out.from (A:=Y) (rs:=[]) (by rw [List.append_nil];exact hm)).A7y) ?_)
   |(refine A8 rfl (A7l (v:=.slice ad4 T.length c4) (l:=T) rfl underlying22 underlying5 underlying9 rfl (HY.out.from (A:=[]) hm).A7y) ?_)
   |(refine A8 rfl (A7r rfl rfl rfl (b:=true) (by simp)) ?_)
   |(go_at_call 14;have _t:=hm;refine (CV.out _ _ _ _ hm HX.out).mono ?_;clear _t hm;rintro e w1 ⟨rfl,rs',hm⟩)
   |(go_at_call 9;refine (HLV.out _).mono ?_;rintro e w1 ⟨rfl,hb⟩;replace hm:=hm.call hb;clear hb))
   go_ret;exact xg6
end Go.Proofs.YtkpbhdhkdonghaaGreat
