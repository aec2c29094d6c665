/-
  Part 23 of the proof.
-/
import Derived.Test.YtkpbhdhkdonghaaGreatD10
import Derived.Test.YtkpbhdhkdonghaaGreatD11
import Derived.Test.YtkpbhdhkdonghaaGreatD12
set_option linter.all false
namespace Go.Proofs.YtkpbhdhkdonghaaGreat
set_option maxHeartbeats 2000000
set_option maxRecDepth 100000
open Go Tryz Go.RowKit
theorem A4Y (w:World):(zeroValue 115).run prog w=.ok (.agg (J .i64 (tab 256 fun _=>0))) w:=by kernel_rfl
theorem A4Q (f:Nat->Int):Aq prog 115 (J .i64 (tab 256 f)).size:=by rw [Df,Lm];exact ag (by decide)
theorem sz115 (f g:Nat->Int):(J .i64 (tab 256 f)).size=(J .i64 (tab 256 g)).size:=by rw [Df,Df,Lm,Lm]
theorem Lies.toIn {k:IntKind} {X:Rws} {v:Value} {l:I_} (h:Lies 1 X v l.length (vs k l)) {w0 w:World} {A:Rws} {ss:List Sl} (hm:Own w0 w (A++X) ss):In k w v l:=by
 have hf:=h.from (A:=A) (rs:=[]) (by rw [List.append_nil];exact hm);obtain ⟨h1,⟨rfl,h2,h3⟩|⟨ad,c,rfl,hc⟩⟩:=hf
 ·have hl0:l.length=0:=h2;exact ⟨none,0,by rw [hl0],fun i hi=>by omega⟩
 ·exact ⟨some ad,c,rfl,fun i hi=>⟨ad,rfl,hc i _ (Fg k l i hi)⟩⟩
theorem A4F (l:I_) (c:Nat):lsn l c+eqn l c=lsn l (c+1):=by rw [YO];omega
theorem A5K (ga gd a n:Nat) (l:I_) (live peak:Int) (w0:World) (hr:AA w0 ga (AR (.slice (some ⟨gd,0,none⟩) l.length l.length) live peak)) (hd:AA w0 gd (B l)) (hb:Bytes l) (h1:(a:Int)+n<=live) (h2:live<=l.length) (h3:l.length<=1048576) (h4:0 < n):Calls prog 66 #[.pointer (some ⟨ga,0,none⟩),.agg (SP a n)] w0 (RB w0 (.agg (J .i64 (tab 256 (lsn (seg l a (a+n))))))):=by
 have CL:Hid (∀ W,Below w0.heap.size w0 W->Calls prog 115 #[.pointer (some ⟨ga,0,none⟩),.agg (SP a n)] W (OwnB W (seg l a (a+n)))):=h_ fun W h=>A6O ga gd a n l live peak W (hr.keep W h) (hd.keep W h) h1 h2 h3 h4;have hsl:(seg l a (a+n)).length=n:=by simp [seg];omega
 have hsb:Bytes (seg l a (a+n)):=fun x hx=>hb x (List.mem_of_mem_take (List.mem_of_mem_drop hx));clear hr hd hb;generalize seg l a (a+n)=c at *;have hn:c.length<=1048576:=by omega
 clear h1 h2 h3 h4 hsl;obtain ⟨i3,hE⟩:=nP;have HE:=h_ hE;obtain ⟨i4,hE1⟩:=Md;have HE1:=h_ hE1;clear hE1;have HB:=h_ hsb;clear hE hsb;go_enter func66,ntmps66;have hm:=Own.nil w0
 go_wp2_with (first
 |(go_at_call 115;have _t:=hm;refine (CL.out _ hm.below).mono ?_;clear _t;rintro e w1 h1;obtain ⟨X,v,rfl,hX,hm2⟩:=hm.ofB h1;clear hm h1;have hm:=hm2;clear hm2;obtain ⟨ad,cp,rfl⟩:=hX.shape;have HX:=h_ hX;clear hX)
 |(with_reducible refine wb hm ?_;clear hm;intro w g6 hm)
 |(with_reducible refine gAl ?_;(with_reducible refine wa _ hm A4Y ?_;clear hm;first|(have _t:=g5;intro w g hm)|intro w g5 hm))
 |(with_reducible refine wla 50 2 hm ?_ (ht:=c_z (Eo _ _))))
 have hm0:=hm.perm List.perm_append_comm;simp only [s2] at hm0;clear hm;have hm:=hm0;clear hm0;have HI:Hid (∀ W (r1 r2 r3:Nat × A_),Own w0 W (r1::r2::r3::X) []->In .u8 W (.slice ad c.length cp) c):=h_ fun W r1 r2 r3 h=>HX.out.toIn (A:=[r1,r2,r3]) h;have h00:∀ i,i < 256->(fun _:Nat=>(0:Int)) i=eqn (c.take 0) i:=fun i _=>by simp [eqn]
 rw [Gi h00] at hm;clear h00
 go_loopw [14] (fun u wr=>∃ k:Nat,k<=c.length/\u=.int .i64 k/\Own w0 wr ((g,J .i64 (tab 256 (eqn (c.take k))))::(g5,J .i64 (tab 256 (eqn (c.take 0))))::(g6,SP a n)::X) []) (fun u _=>c.length - (intOf u).toNat)
 case atStart=>exact ⟨0,by omega,rfl,hm⟩
 case round =>
  clear hm;obtain ⟨k,hk,rfl,hm⟩:=hrel;by_cases hlt:k < c.length
  ·have hs:=HB.out (gi c k) (by rw [BZ c k hlt];exact List.getElem_mem _);have hin:=HI.out _ _ _ _ hm;obtain ⟨ad2,cp2,he,hc⟩:=hin;cases he;obtain ⟨A,rfl,hcell⟩:=hc k hlt;obtain ⟨b,hb⟩:=Int.eq_ofNat_of_zero_le hs.1;have hb1:b < 256:=by omega
   rw [hb] at hcell;have hbd:=Fz (c.take k) b;have hlt2:=List.length_take_le' k c;have w3:IntKind.i64.wrap (eqn (c.take k) b+1)=eqn (c.take k) b+1:=i_6;have HG:=h_ (PU .i64 (eqn (c.take k)) hb1)
   have HP:=h_ (kH .i64 (n:=256) (eqn (c.take k)) (eqn (c.take (k+1))) b (eqn (c.take k) b+1) (fun j _=>by
    rw [Jm c k hlt,hb];by_cases e:j=b
    ·subst e;simp
    ·rw [if_neg e,if_neg (by omega),Int.add_zero]))
   have HSZ:Hid (b < (J .i64 (tab 256 (eqn (c.take k)))).size):=h_ (by rw [Df,Lm];exact hb1);clear hs hc hb hbd hlt2;generalize eqn (c.take k) b=y at *;generalize hT1:tab 256 (eqn (c.take k))=T1 at *;generalize hT2:tab 256 (eqn (c.take (k+1)))=T2 at *
   go_wp2_with (first
    |(with_reducible refine gIa (t:=22) ?_;(refine A8 rfl (Am rfl HE1.out rfl rfl rfl hlt) ?_))
    |(with_reducible refine gLd (t:=5) ?_;(refine A8 rfl (AU rfl rfl FV hcell) ?_))
    |(with_reducible first|(refine wl 3 0 hm ?_ (hv:=c_z HG.out))|(refine wc 3 0 hm ?_ (hf:=c_z HSZ.out) (hn:=c_z HP.out);clear hm;intro w hm)))
   go_roundw
   case rel=>exact ⟨k+1,by omega,by go_num,by rw [hT2];exact hm⟩
   case measure=>simp [intOf];omega
  ·obtain rfl:c.length=k:=by omega
   rw [List.take_length] at hm;go_wp2
   have hm0:Own w0 wr ((g,J .i64 (tab 256 (eqn c)))::(g5,J .i64 (tab 256 (fun j=>if j < 0 then lsn c j else 0)))::(g6,SP a n)::X) []:=by
    rw [Gi (f:=fun j=>if j < 0 then lsn c j else 0) (g:=eqn (c.take 0)) (fun i _=>by simp [eqn])];exact hm
   clear hm;have hm:=hm0;clear hm0
   go_loopw [8,24] (fun z u wr=>∃ k:Nat,k<=256/\u=.int .i64 k/\z=.int .i64 (lsn c k)/\Own w0 wr ((g,J .i64 (tab 256 (eqn c)))::(g5,J .i64 (tab 256 (fun j=>if j < k then lsn c j else 0)))::(g6,SP a n)::X) []) (fun _ u _=>256 - (intOf u).toNat)
   case atStart=>exact ⟨0,by omega,rfl,by rw [uY HB.out],hm⟩
   case round =>
    clear hm;obtain ⟨k,hk,rfl,rfl,hm⟩:=hrel;by_cases hlt:k < 256
    ·have hbd:=A0k c k;have b1:=Ll c k;have b2:=Fz c k;have w3:IntKind.i64.wrap (lsn c k+eqn c k)=lsn c k+eqn c k:=i_6;have HG:=h_ (PU .i64 (eqn c) hlt);have HE2:=h_ (A4F c k)
     have HP:=h_ (kH .i64 (n:=256) (fun j=>if j < k then lsn c j else 0) (fun j=>if j < k+1 then lsn c j else 0) k (lsn c k) (fun j _=>by
      by_cases e:j=k
      ·subst e;rw [if_pos rfl,if_pos (by omega)]
      ·rw [if_neg e];by_cases h:j < k
       ·rw [if_pos h,if_pos (by omega)]
       ·rw [if_neg h,if_neg (by omega)]))
     have HSZ:Hid (k < (J .i64 (tab 256 (fun j=>if j < k then lsn c j else 0))).size):=h_ (by rw [Df,Lm];exact hlt);clear hbd b1 b2;generalize lsn c k=x at *;generalize eqn c k=y at *;generalize hT1:tab 256 (fun j=>if j < k then lsn c j else 0)=T1 at *;generalize hT2:tab 256 (fun j=>if j < k+1 then lsn c j else 0)=T2 at *;generalize hT3:tab 256 (eqn c)=T3 at *
     go_wp2_with (first
      |(with_reducible first|(refine wl 3 0 hm ?_ (hv:=c_z HG.out))|(refine wc 3 1 hm ?_ (hf:=c_z HSZ.out) (hn:=c_z HP.out);clear hm;intro w hm)))
     go_roundw
     case rel=>exact ⟨k+1,by omega,by go_num,by rw [HE2.out],by rw [hT2];exact hm⟩
     case measure=>simp [intOf];omega
    ·obtain rfl:k=256:=by omega
     rw [Gi (f:=fun j=>if j < 256 then lsn c j else 0) (g:=lsn c) (fun i hi=>by rw [if_pos hi])] at hm
     go_wp2_with (first
      |(with_reducible first|(refine wla 115 1 hm ?_ (ht:=c_z (A4Q _)))|(refine ws 115 1 hm ?_ (ht:=c_z (A4Q _)) (h1:=c_z (J_one _ _));clear hm;intro w hm)))
     refine b_r (AQ rfl rfl (hm.row 1 rfl) (A4Q _)) rfl ⟨rfl,hm.below⟩
end Go.Proofs.YtkpbhdhkdonghaaGreat
