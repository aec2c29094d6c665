/-
  Part 7 of the proof.
-/
import Derived.Test.YtkpbhdhkdonghaaGreatA02
import Derived.Test.YtkpbhdhkdonghaaGreatA06
set_option linter.all false
set_option maxHeartbeats 400000
set_option maxRecDepth 100000
namespace Go.Proofs.YtkpbhdhkdonghaaGreat
open Go Tryz Go.RowKit
theorem agg82:Aq prog 115 256:=Aq.mk' underlying115 rfl (by kernel_rfl)
theorem qm (w:World):(zeroValue 115).run prog w=.ok (.agg (I zeros)) w:=by kernel_rfl
theorem A0Q (l:I_) (h:l.length=256):Aq prog 115 (I l).size:=by rw [bC,h];exact agg82
theorem info3:∃ i,prog.info? 3=some i:=Option.isSome_iff_exists.1 (by kernel_rfl)
theorem info5:∃ i,prog.info? 5=some i:=Option.isSome_iff_exists.1 (by kernel_rfl)
theorem tH (w:World):Calls prog 250 #[] w fun e w'=>(e=.returned (.agg (I ones)))/\Below w.heap.size w w':=by
  have Hs:∀ k:Nat,Hid ((one k).length=256):=jm;have Hr:Hid (one 256=ones):=rfl;go_enter func250,ntmps250;have hm:=Mem.nil w
  go_wp2_with (first
     |(refine DF (by assumption) rfl rfl qm ?_;intro w1 g1 hm1))
  rw [show zeros=one 0 by decide] at hm1
  go_loopw [2] (fun i wr=>∃ k:Nat,k<=256/\i=.int .i64 k/\Mem w wr [(g1,I (one k))]) (fun i _=>256 - (intOf i).toNat)
  case atStart=>exact ⟨0,by omega,rfl,hm1⟩
  case round =>
    obtain ⟨k,hk,rfl,hmr⟩:=hrel;by_cases hlt:k < 256
    · have c0:k < (I (one k)).size:=by rw [bC,(Hs k).out];exact hlt
      go_wp2_with (refine A7p 0 hmr rfl rfl rfl rfl rfl BG c0 rfl rfl (A1b (one k) k 1) ?_;intro w7 hm7;simp only [List.set] at hm7)
      rw [one_step] at hm7;exact xcy
    · obtain rfl:k=256:=by omega
      go_wp2_with (first
      |(refine Ag rfl rfl rfl (hmr.get 0 rfl) (A0Q _ (Hs 256).out) ?_)
      |(refine DC 0 hmr rfl rfl rfl rfl rfl (A0Q _ (Hs 256).out) rfl (I_one _) ?_;intro w8 hm8;simp only [List.set] at hm8))
      refine b_r (AQ rfl rfl (hm8.get 0 rfl) (A0Q _ (Hs 256).out)) rfl ⟨rfl,hm8.below⟩
theorem P8 (l:I_) (w:World) (hl:l.length=256) (hb:Bytes l):Calls prog 215 #[.agg (B l)] w fun e w'=>(e=.returned (.bool (vld l)))/\Below w.heap.size w w':=by
  have Hl:Hid (l.length=256):=hl
  have Hb:∀ k,k < 256->Hid (0<=gi l k/\gi l k < 256):=fun k hk=>by
    refine hb _ ?_;simp only [gi,List.getD_eq_getElem?_getD,l_e (show k < l.length by omega),Option.getD_some];exact List.getElem_mem _
  have Hs:∀ k:Nat,Hid ((Ew l k).length=256):=dN l;have Hst:∀ k,k < 256->Hid ((Ew l k).set (gi l k).toNat 1=Ew l (k+1)):=fun k hk=>Y2 l k (by omega) (Hb k hk).out.1;have Hg:∀ i,i < 256->Hid ((B l)[i]?=some (.int .u8 (gi l i))):=fun i hi=>Zd l i (by omega)
  have H0:Hid (zeros=Ew l 0):=by
    show zeros=Ew l 0;simp only [Ew,List.take_zero,List.contains_nil,Bool.false_eq_true,if_false];decide
  clear hl hb;have HB:=h_ Hb;have HS:=h_ Hs;have HST:=h_ Hst;have HG:=h_ Hg;clear Hb Hs Hst Hg;go_enter func215,ntmps215;have hm:=Mem.nil w
  go_wp2_with (first
     |(refine Ho hm rfl rfl rfl ?_;intro w1 g1 hm1;clear hm)
     |(refine DF hm1 rfl rfl qm ?_;intro w2 g2 hm2;clear hm1)
     |(refine Ag rfl rfl rfl (hm2.get 1 rfl) (F6 l Hl.out) ?_))
  rw [H0.out] at hm2
  go_loopw [7] (fun i wr=>∃ k:Nat,k<=256/\i=.int .i64 k/\Mem w wr [(g2,I (Ew l k)),(g1,B l)]) (fun i _=>256 - (intOf i).toNat)
  case atStart=>exact ⟨0,by omega,rfl,hm2⟩
  case round =>
    obtain ⟨k,hk,rfl,hmr⟩:=hrel;clear hm2;by_cases hlt:k < 256
    · have hbd:=(HB.out k hlt).out
      obtain ⟨c,hc⟩:=Int.eq_ofNat_of_zero_le hbd.1;have hg:=(HG.out k hlt).out;rw [hc] at hg hbd;have hst:=(HST.out k hlt);rw [hc,Int.toNat_natCast] at hst;have hc2:c < 256:=by omega
      clear hbd hc;have c0:c < (I (Ew l k)).size:=by rw [bC,(HS.out k).out];exact hc2
      go_wp2_with (first
       |(refine A8 rfl (DZ rfl rfl rfl underlying145 FV hlt hg) ?_)
       |(refine A7p 0 hmr rfl rfl rfl rfl rfl BG c0 rfl rfl (A1b (Ew l k) c 1) ?_;intro w7 hm7;simp only [List.set] at hm7;rw [hst.out] at hm7))
      exact xcy
    · obtain rfl:k=256:=by omega
      go_wp2_with fail
      refine D7 [(0,true),(1,false),(2,true),(3,true)] (fun W=>AA W g2 (I (Ew l 256))) rfl (by kernel_rfl) rfl (by kernel_rfl) (fun _ _ d _ _ h=>by cases d<;>exact h) ((hmr.drawn (wr.drawn+1)).get 0 rfl) ?_;have hm8:=hmr.drawn (wr.drawn+1);generalize ({ wr with drawn:=wr.drawn+1 }:World)=w8 at hm8 ⊢;refine NZ rfl rfl (fun W hW=>Du rfl rfl hW (A0Q _ (HS.out 256).out)) ?_;refine WY rfl rfl (fun K hK=>?_);go_simp;refine (tH _).mono ?_;rintro e w9 ⟨rfl,hb9⟩;have hm9:=hm8.call hb9;refine hK _ _ ⟨_,fun _ h=>h,hm9.get 0 rfl,?_⟩;clear hK K;obtain ⟨i3,hi3⟩:=info3;refine NZ rfl rfl (fun W hW=>UN (k:=.i64) (l:=Ew l 256) (m:=ones) rfl rfl rfl (by kernel_rfl) underlying115 underlying3 hi3 (by kernel_rfl) (HS.out 256).out (jm 256)) ?_;refine NZ rfl rfl (fun W hW=>by go_simp;rfl) ?_;refine IY ?_;go_wp2;go_ret;exact ⟨rfl,hm9.below⟩
end Go.Proofs.YtkpbhdhkdonghaaGreat
