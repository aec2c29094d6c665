/- Part 8 of the proof. -/
import Derived.Test.YtkpbhdhkdonghaaGreatS02
import Derived.Test.YtkpbhdhkdonghaaGreatS07
set_option linter.all false
set_option maxHeartbeats 400000
set_option maxRecDepth 100000
namespace Go.Proofs.YtkpbhdhkdonghaaGreat
open Go Tryz Go.RowKit
def TH:Aq prog 115 256:=Aq.mk' underlying115 rfl FZ
def qm(w:FC):(zeroValue 115).run prog w=.ok (.agg (I zeros)) w:=FZ
def mY{l:ac}(h:l.length=256):Aq prog 115 (I l).size:=by rw[bC,h];exact TH
def info3:∃i,prog.info? 3=some i:=qU.1 FZ
def info5:∃i,prog.info? 5=some i:=qU.1 FZ
def a0Y{w:FC}:ak 250 #[] w λe w'=>(e=.returned (.agg (I ones)))/\Below w.heap.size w w':=by
  have Hs:∀k:Nat,Hid ((one k).length=256):=jm;have Hr:Hid (one 256=ones):=rfl;go_enter func250,ntmps250;have hm:=Mem.nil w
  go_wp2_with(first
     |refine DF Gq rfl rfl qm ?_;intro w1 g1 hm1)
  rw[show zeros=one 0 by decide]at hm1
  go_loopw[2] (λi wr=>∃k:Nat,k<=256/\i=.int .i64 k/\Mem w wr [(g1,I (one k))]) (λi _=>256-(intOf i).toNat)
  case atStart=>exact⟨0,FP,rfl,hm1⟩
  case round=>
    obtain⟨k,hk,rfl,hmr⟩:=hrel;by_cases hlt:k<256
    . have c0:k<(I (one k)).size:=by rw[bC,(Hs k).out];exact hlt
      go_wp2_with(refine sX 0 hmr rfl rfl rfl rfl rfl DR c0 rfl rfl (C5 (one k) k 1) ?_;intro w7 hm7;simp only[List.set]at hm7)
      rw[one_step]at hm7;exact rG
    . obtain rfl:k=256:=FP
      go_wp2_with(first
      |refine Ag rfl rfl rfl (hmr.get 0 rfl) (mY (Hs 256).out) ?_
      |refine DC 0 hmr rfl rfl rfl rfl rfl (mY (Hs 256).out) rfl QE ?_;intro w8 hm8;simp only[List.set]at hm8)
      refine aD (AQ rfl rfl (hm8.get 0 rfl) (mY (Hs 256).out)) rfl ⟨rfl,hm8.below⟩
def P8(l:ac){w:FC}(hl:l.length=256)(hb:Bytes l):ak 215 #[.agg (B l)] w λe w'=>(e=.returned (.bool (ly l)))/\Below w.heap.size w w':=by
  have Hl:Hid (l.length=256):=hl
  have Hb:∀k,k<256->Hid (0<=gi l k/\gi l k<256):=λk hk=>by
    refine hb _ ?_;simp only[gi,fU,fe (show k<l.length by omega),Option.getD_some];exact dF _
  have Hs:∀k:Nat,Hid ((Ew l k).length=256):=a0b l;have Hst:∀k,k<256->Hid ((Ew l k).set (gi l k).toNat 1=Ew l (k+1)):=λk hk=>SX FP (Hb k hk).out.1;have Hg:∀i,i<256->Hid ((B l)[i]?=some (.int .u8 (gi l i))):=λi hi=>Zd l i FP
  have H0:Hid (zeros=Ew l 0):=by
    show zeros=Ew l 0;simp only[Ew,mO,zU,lU,jq];decide
  clear hl hb;have HB:=aa Hb;have HS:=aa Hs;have HST:=aa Hst;have HG:=aa Hg;clear Hb Hs Hst Hg;go_enter func215,ntmps215;have hm:=Mem.nil w
  go_wp2_with(first
     |refine Ho hm rfl rfl rfl ?_;intro w1 g1 hm1;clear hm
     |refine DF hm1 rfl rfl qm ?_;intro w2 g2 hm2;clear hm1
     |refine Ag rfl rfl rfl (hm2.get 1 rfl) (F6 l Hl.o) ?_)
  rw[H0.o]at hm2
  go_loopw[7] (λi wr=>∃k:Nat,k<=256/\i=.int .i64 k/\Mem w wr [(g2,I (Ew l k)),(g1,B l)]) (λi _=>256-(intOf i).toNat)
  case atStart=>exact⟨0,FP,rfl,hm2⟩
  case round=>
    obtain⟨k,hk,rfl,hmr⟩:=hrel;clear hm2;by_cases hlt:k<256
    . have hbd:=(HB.o k hlt).out
      obtain⟨c,hc⟩:=dB hbd.1;have hg:=(HG.o k hlt).out;rw[hc]at hg hbd;have hst:=(HST.o k hlt);rw[hc,gB]at hst;have hc2:c<256:=FP
      clear hbd hc;have c0:c<(I (Ew l k)).size:=by rw[bC,(HS.o k).out];exact hc2
      go_wp2_with(first
       |refine A8 rfl (DZ rfl rfl rfl underlying145 FV hlt hg) ?_
       |refine sX 0 hmr rfl rfl rfl rfl rfl DR c0 rfl rfl (C5 (Ew l k) c 1) ?_;intro w7 hm7;simp only[List.set]at hm7;rw[hst.out]at hm7)
      exact rG
    . obtain rfl:k=256:=FP
      go_wp2_with fail
      refine D7 [(0,true),(1,false),(2,true),(3,true)] (λW=>AA W g2 (I (Ew l 256))) rfl FZ rfl FZ (λ_ _ d _ _ h=>by cases d<;>exact h) ((hmr.drawn (wr.drawn+1)).get 0 rfl) ?_;have hm8:=hmr.drawn (wr.drawn+1);generalize ({wr with drawn:=wr.drawn+1}:FC)=w8 at hm8⊢;refine NZ rfl rfl (λW hW=>Du rfl rfl hW (mY (HS.o 256).out)) ?_;refine WY rfl rfl (λK hK=>?_);go_simp;refine(a0Y).mono ?_;rintro e w9⟨rfl,hb9⟩;have hm9:=hm8.call hb9;refine hK _ _ ⟨_,λ_ h=>h,hm9.get 0 rfl,?_⟩;clear hK K;obtain⟨i3,hi3⟩:=info3;refine NZ rfl rfl (λW hW=>UN (k:=.i64) (l:=Ew l 256) (m:=ones) rfl rfl rfl FZ underlying115 underlying3 hi3 FZ (HS.o 256).out (jm 256)) ?_;refine NZ rfl rfl (λW hW=>by go_simp;rfl) ?_;refine IY ?_;go_wp2;go_ret;exact⟨rfl,hm9.below⟩
end Go.Proofs.YtkpbhdhkdonghaaGreat
