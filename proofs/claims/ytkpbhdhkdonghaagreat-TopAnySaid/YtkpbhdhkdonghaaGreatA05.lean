/-
  Part 5 of the proof.
-/
import Derived.Test.YtkpbhdhkdonghaaGreatProg
import Derived.StillTailTactics
import Derived.WalkLawsBesides
import Derived.Test.YtkpbhdhkdonghaaGreatA01
set_option linter.all false
set_option maxHeartbeats 400000
set_option maxRecDepth 100000
namespace Go.Proofs.YtkpbhdhkdonghaaGreat
open Go Tryz Go.RowKit
theorem A1u:Aq prog 145 256:=Aq.mk' underlying145 rfl (by kernel_rfl)
theorem QZ (w:World):(zeroValue 145).run prog w=.ok (.agg (B zeros)) w:=by kernel_rfl
theorem F6 (l:I_) (h:l.length=256):Aq prog 145 (B l).size:=by rw [Ih,h];exact A1u
theorem QI (l m:I_) (h:l.length=256) (k:m.length=256):(B l).size=(B m).size:=by rw [Ih,Ih,h,k]
theorem sz5:(prog.info? 5).map (·.size)=some 1:=by kernel_rfl
theorem FV:ET prog 5:=⟨fun w=>by kernel_rfl,by kernel_rfl⟩
theorem BG:ET prog 3:=⟨fun w=>by kernel_rfl,by kernel_rfl⟩
theorem qR (l:I_) (p:Int) (w:World) (hl:l.length=256) (hp:p < 0\/256<=p):Calls prog 218 #[.agg (B l),.int .i64 p] w fun e w'=>(e=.returned (.tuple #[.agg (B l),.int .u8 0,.bool false]))/\Below w.heap.size w w':=by
  have Hl:Hid (l.length=256):=hl;clear hl;rcases hp with hp|hp
  · go_enter func218,ntmps218
    exact xbr
  · have hp2:¬ p < 0:=by omega
    go_enter func218,ntmps218;exact xbr
theorem zy (l:I_) (k:Nat) (w:World) (hl:l.length=256) (hk:k < 256):Calls prog 218 #[.agg (B l),.int .i64 k] w fun e w'=>(e=.returned (.tuple #[.agg (B (front l k)),.int .u8 (gi l k),.bool true]))/\Below w.heap.size w w':=by
  have Hl:Hid (l.length=256):=hl;have hg:=Zd l k (by omega);have e1:IntKind.i64.wrap ((k:Int)+1)=(k:Int)+1:=i_6;have Hz:Hid ((sh l k 0).length=256):=(A2g l k 0 (by omega) (by omega)).trans hl;have He:Hid (front l k=(sh l k 0).set 0 (gi l k)):=(A1P l k (by omega)).symm;have Hm:Hid (l.take 1++l.take k++l.drop (1+(l.take k).length)=sh l k 0):=(zO l k (by omega)).symm;clear hl;go_enter func218,ntmps218;have hm:=Mem.nil w
  go_wp2_with (first
     |(refine Ho (by assumption) rfl rfl rfl ?_;intro w1 g1 hm1)
     |(refine DF (by assumption) rfl rfl QZ ?_;intro w2 g2 hm2))
  refine wp_region_still_tail 4 rfl (by kernel_rfl) ?_;simp only [List.take_succ_cons,List.take_zero,List.drop_succ_cons,List.drop_zero];have hm3:=hm2.drawn (w2.drawn+1);generalize ({ w2 with drawn:=w2.drawn+1 }:World)=w3 at hm3 ⊢;refine P5 rfl rfl rfl (hm3.get 1 rfl) (F6 l Hl.out) ?_
  still_step
  still_step
  refine OZ rfl rfl rfl (hm3.get 1 rfl) FV hg ?_;refine wpStill_nil ?_
  go_wp2_with (refine DC 0 hm3 rfl rfl rfl rfl rfl (F6 l Hl.out) (QI _ _ Hl.out DK) (Ut _) ?_;intro w4 hm4;simp only [List.set] at hm4)
  refine wp_region_still_tail 5 rfl (by kernel_rfl) ?_;simp only [List.take_succ_cons,List.take_zero,List.drop_succ_cons,List.drop_zero];have hm5:=hm4.drawn (w4.drawn+1);generalize ({ w4 with drawn:=w4.drawn+1 }:World)=w5 at hm5 ⊢
  still_step
  still_step
  refine IQ rfl (Iq rfl underlying145 sz5 rfl (off':=1) (len:=k) (cap:=255) 1 (k+1) (.inr ⟨_,rfl,rfl⟩) (.inr ⟨_,rfl,by omega⟩) (by omega) (by omega) (by omega) rfl rfl rfl) ?_
  still_step
  refine IQ rfl (Iq rfl underlying145 sz5 rfl (off':=0) (len:=k) (cap:=256) 0 k (.inl ⟨rfl,rfl⟩) (.inr ⟨_,rfl,rfl⟩) (by omega) (by omega) (by omega) rfl rfl rfl) ?_;refine wpStill_nil ?_;have c1:(B (l.take k)).size=k:=by rw [Ih,List.length_take,Hl.out];omega
  have c2:splice (B l) 1 (B (l.take k))=B (sh l k 0):=(rG _ _ _).trans (by rw [Hm.out]);have c3:1+(B (l.take k)).size<=(B l).size:=by rw [c1,Ih,Hl.out];omega
  refine Uy (vs:=B (l.take k)) (cs:=B l) (cs2:=B l) (off:=1) (os:=0) (g:=g2) (gs:=g1) (dLen:=k) (dCap:=255) (sLen:=k) (sCap:=256) (ns:=B (sh l k 0)) 0 hm5 rfl rfl underlying22 sz5 rfl rfl rfl (hm5.get 1 rfl) (by rw [c1];exact (Nat.min_self k).symm) (by rw [nJ,c1];simp) c3 (Ut _) c2 ?_;clear c1 c2 c3;intro w6 hm6;simp only [List.set] at hm6;have c0:0 < (B (sh l k 0)).size:=by rw [Ih,Hz.out];omega
  go_wp2_with (first
     |(refine A7p 0 hm6 rfl rfl rfl rfl rfl FV c0 rfl rfl (A1c (sh l k 0) 0 (gi l k)) ?_;intro w7 hm7;simp only [List.set] at hm7;rw [<- He.out] at hm7)
     |(refine Ag rfl rfl rfl (hm7.get 0 rfl) (F6 _ (by rw [He.out,List.length_set];exact Hz.out)) ?_)
     |(refine DC 0 hm7 rfl rfl rfl rfl rfl (F6 _ (by rw [He.out,List.length_set];exact Hz.out)) rfl (Ut _) ?_;intro w8 hm8;simp only [List.set] at hm8))
  refine b_r (Ae rfl rfl (hm8.get 0 rfl) (F6 _ (by rw [He.out,List.length_set];exact Hz.out))) rfl ⟨rfl,hm8.below⟩
theorem take_any (l:I_) (p:Int) (w:World) (hl:l.length=256):Calls prog 218 #[.agg (B l),.int .i64 p] w fun e w'=>(e=.returned (.tuple #[.agg (B (Ie l p)),.int .u8 (takeC l p),.bool (takeB p)]))/\Below w.heap.size w w':=by
  by_cases h:0<=p/\p < 256
  · obtain ⟨k,rfl⟩:=Int.eq_ofNat_of_zero_le h.1
    simp only [Ie,takeC,takeB,h,and_self,if_true,decide_true,Int.toNat_natCast];exact zy l k w hl (by omega)
  · simp only [Ie,takeC,takeB,h,if_false,decide_false]
    exact qR l p w hl (by omega)
theorem new_any (w:World):Calls prog 169 #[] w fun e w'=>(e=.returned (.agg (B new)))/\Below w.heap.size w w':=by
  have Hs:∀ k:Nat,Hid ((Jh k).length=256):=Vt;have Hr:Hid (Jh 256=new):=rfl;go_enter func169,ntmps169;have hm:=Mem.nil w
  go_wp2_with (first
     |(refine DF (by assumption) rfl rfl QZ ?_;intro w1 g1 hm1))
  rw [show zeros=Jh 0 by decide] at hm1
  go_loopw [2] (fun i wr=>∃ k:Nat,k<=256/\i=.int .i64 k/\Mem w wr [(g1,B (Jh k))]) (fun i _=>256 - (intOf i).toNat)
  case atStart=>exact ⟨0,by omega,rfl,hm1⟩
  case round =>
    obtain ⟨k,hk,rfl,hmr⟩:=hrel;by_cases hlt:k < 256
    · have c0:k < (B (Jh k)).size:=by rw [Ih,(Hs k).out];exact hlt
      go_wp2_with (refine A7p 0 hmr rfl rfl rfl rfl rfl FV c0 rfl rfl (A1c (Jh k) k k) ?_;intro w7 hm7;simp only [List.set] at hm7)
      rw [dI] at hm7;exact xcy
    · obtain rfl:k=256:=by omega
      go_wp2_with (first
      |(refine Ag rfl rfl rfl (hmr.get 0 rfl) (F6 _ (Hs 256).out) ?_)
      |(refine DC 0 hmr rfl rfl rfl rfl rfl (F6 _ (Hs 256).out) rfl (Ut _) ?_;intro w8 hm8;simp only [List.set] at hm8))
      refine b_r (AQ rfl rfl (hm8.get 0 rfl) (F6 _ (Hs 256).out)) rfl ⟨rfl,hm8.below⟩
end Go.Proofs.YtkpbhdhkdonghaaGreat
