/- Part 6 of the proof. -/
import Derived.StillTailTactics
import Derived.WalkLawsBesides
import Derived.Test.YtkpbhdhkdonghaaGreatS05
set_option linter.all false
set_option maxHeartbeats 400000
set_option maxRecDepth 100000
namespace Go.Proofs.YtkpbhdhkdonghaaGreat
open Go Tryz Go.RowKit
section
variable{p:Int}{l m:ac}{k:Nat}{w:FC}
def ye:Aq prog 145 256:=Aq.mk' underlying145 rfl FZ
def QZ(w:FC):(zeroValue 145).run prog w=.ok (.agg (B zeros)) w:=FZ
def F6(l:ac)(h:l.length=256):Aq prog 145 (B l).size:=by rw[Ih,h];exact ye
def QI(h:l.length=256)(k:m.length=256):(B l).size=(B m).size:=by rw[Ih,Ih,h,k]
def ml:(prog.info? 5).map (·.size)=some 1:=FZ
def FV:ET prog 5:=⟨λw=>FZ,FZ⟩
def DR:ET prog 3:=⟨λw=>FZ,FZ⟩
def a1R(hl:l.length=256)(hp:p<0\/256<=p):ak 218 #[.agg (B l),.int .i64 p] w λe w'=>(e=.returned (.tuple #[.agg (B l),.int .u8 0,.bool false]))/\Below w.heap.size w w':=by
  have Hl:Hid (l.length=256):=hl;clear hl;rcases hp with hp|hp
  . go_enter func218,ntmps218
    exact Bb
  . have hp2:¬p<0:=FP
    go_enter func218,ntmps218;exact Bb
def zy(hl:l.length=256)(hk:k<256):ak 218 #[.agg (B l),.int .i64 k] w λe w'=>(e=.returned (.tuple #[.agg (B (front l k)),.int .u8 (gi l k),.bool true]))/\Below w.heap.size w w':=by
  have Hl:Hid (l.length=256):=hl;have hg:=Zd l k FP;have e1:IntKind.i64.wrap ((k:Int)+1)=(k:Int)+1:=av;have Hz:Hid ((sh l k 0).length=256):=(A2g l k 0 FP FP).trans hl;have He:Hid (front l k=(sh l k 0).set 0 (gi l k)):=(A1P l k FP).symm;have Hm:Hid (l.take 1++l.take k++l.drop (1+(l.take k).length)=sh l k 0):=(zO l k FP).symm;clear hl;go_enter func218,ntmps218;have hm:=Mem.nil w
  go_wp2_with(first
     |refine Ho Gq rfl rfl rfl ?_;intro w1 g1 hm1
     |refine DF Gq rfl rfl QZ ?_;intro w2 g2 hm2)
  refine wp_region_still_tail 4 rfl FZ ?_;simp only[wC,mO,y9,wE];have hm3:=hm2.drawn (w2.drawn+1);generalize ({w2 with drawn:=w2.drawn+1}:FC)=w3 at hm3⊢;refine P5 rfl rfl rfl (hm3.get 1 rfl) (F6 l Hl.o) ?_
  still_step
  still_step
  refine OZ rfl rfl rfl (hm3.get 1 rfl) FV hg ?_;refine wpStill_nil ?_
  go_wp2_with(refine DC 0 hm3 rfl rfl rfl rfl rfl (F6 l Hl.o) (QI Hl.o DK) Ut ?_;intro w4 hm4;simp only[List.set]at hm4)
  refine wp_region_still_tail 5 rfl FZ ?_;simp only[wC,mO,y9,wE];have hm5:=hm4.drawn (w4.drawn+1);generalize ({w4 with drawn:=w4.drawn+1}:FC)=w5 at hm5⊢
  still_step
  still_step
  refine IQ rfl (Iq rfl underlying145 ml rfl (off':=1) (len:=k) (cap:=255) 1 (k+1) (.inr ⟨_,rfl,rfl⟩) (.inr ⟨_,rfl,FP⟩) FP FP FP rfl rfl rfl) ?_
  still_step
  refine IQ rfl (Iq rfl underlying145 ml rfl (off':=0) (len:=k) (cap:=256) 0 k (.inl ⟨rfl,rfl⟩) (.inr ⟨_,rfl,rfl⟩) FP FP FP rfl rfl rfl) ?_;refine wpStill_nil ?_;have c1:(B (l.take k)).size=k:=by rw[Ih,fZ,Hl.o];omega
  have c2:splice (B l) 1 (B (l.take k))=B (sh l k 0):=(a09).trans (by rw[Hm.o]);have c3:1+(B (l.take k)).size<=(B l).size:=by rw[c1,Ih,Hl.o];omega
  refine a1k (vs:=B (l.take k)) (cs:=B l) (cs2:=B l) (off:=1) (os:=0) (g:=g2) (gs:=g1) (dLen:=k) (dCap:=255) (sLen:=k) (sCap:=256) (ns:=B (sh l k 0)) 0 hm5 rfl rfl underlying22 ml rfl rfl rfl (hm5.get 1 rfl) (by rw[c1];exact(Nat.min_self k).symm) (by rw[nJ,c1];simp) c3 Ut c2 ?_;clear c1 c2 c3;intro w6 hm6;simp only[List.set]at hm6;have c0:0<(B (sh l k 0)).size:=by rw[Ih,Hz.o];omega
  go_wp2_with(first
     |refine sX 0 hm6 rfl rfl rfl rfl rfl FV c0 rfl rfl (ky (sh l k 0) 0 (gi l k)) ?_;intro w7 hm7;simp only[List.set]at hm7;rw[<-He.o]at hm7
     |refine Ag rfl rfl rfl (hm7.get 0 rfl) (F6 _ La) ?_
     |refine DC 0 hm7 rfl rfl rfl rfl rfl (F6 _ La) rfl Ut ?_;intro w8 hm8;simp only[List.set]at hm8)
  refine aD (Ae rfl rfl (hm8.get 0 rfl) (F6 _ La)) rfl ⟨rfl,hm8.below⟩
def take_any(l:ac)(p:Int)(hl:l.length=256):ak 218 #[.agg (B l),.int .i64 p] w λe w'=>(e=.returned (.tuple #[.agg (B (Ie l p)),.int .u8 (takeC l p),.bool (takeB p)]))/\Below w.heap.size w w':=by
  by_cases h:0<=p/\p<256
  . obtain⟨k,rfl⟩:=dB h.1
    simp only[Ie,takeC,takeB,h,and_self,fP,decide_true,gB];exact zy hl FP
  . simp only[Ie,takeC,takeB,h,jq,decide_false]
    exact a1R hl FP
def new_any:ak 169 #[] w λe w'=>(e=.returned (.agg (B new)))/\Below w.heap.size w w':=by
  have Hs:∀k:Nat,Hid ((Jh k).length=256):=Vt;have Hr:Hid (Jh 256=new):=rfl;go_enter func169,ntmps169;have hm:=Mem.nil w
  go_wp2_with(first
     |refine DF Gq rfl rfl QZ ?_;intro w1 g1 hm1)
  rw[show zeros=Jh 0 by decide]at hm1
  go_loopw[2] (λi wr=>∃k:Nat,k<=256/\i=.int .i64 k/\Mem w wr [(g1,B (Jh k))]) (λi _=>256-(intOf i).toNat)
  case atStart=>exact⟨0,FP,rfl,hm1⟩
  case round=>
    obtain⟨k,hk,rfl,hmr⟩:=hrel;by_cases hlt:k<256
    . have c0:k<(B (Jh k)).size:=by rw[Ih,(Hs k).out];exact hlt
      go_wp2_with(refine sX 0 hmr rfl rfl rfl rfl rfl FV c0 rfl rfl (ky (Jh k) k k) ?_;intro w7 hm7;simp only[List.set]at hm7)
      rw[dI]at hm7;exact rG
    . obtain rfl:k=256:=FP
      go_wp2_with(first
      |refine Ag rfl rfl rfl (hmr.get 0 rfl) (F6 _ (Hs 256).out) ?_
      |refine DC 0 hmr rfl rfl rfl rfl rfl (F6 _ (Hs 256).out) rfl Ut ?_;intro w8 hm8;simp only[List.set]at hm8)
      refine aD (AQ rfl rfl (hm8.get 0 rfl) (F6 _ (Hs 256).out)) rfl ⟨rfl,hm8.below⟩
end
end Go.Proofs.YtkpbhdhkdonghaaGreat
