/- Part 7 of the proof. -/
import Derived.Lib.BytesEntry
import Derived.Lib.Hide
import Derived.Test.YtkpbhdhkdonghaaGreatS06
set_option linter.all false
set_option maxHeartbeats 400000
set_option maxRecDepth 100000
namespace Go.Proofs.YtkpbhdhkdonghaaGreat
open Go Tryz Go.RowKit
section
variable{c cv x:Int}{l xs:ac}{b g n:Nat}{w:FC}
def Bytes(l:ac):Prop:=∀x∈l,0<=x/\x<256
def YY(hx:0<=x/\x<256)(hc:0<=c/\c<256):(UInt8.ofNat x.toNat==c.toNat.toUInt8)=(x==c):=by
 rw[EF];simp only[iI]
 constructor
 .intro h;have:=congrArg UInt8.toNat h;simp at this;omega
 .rintro rfl;rfl
def MG:∀(l:ac)(c:Int),Bytes l->0<=c/\c<256->Lib.indexByte (Lib.bytesOf l) c.toNat.toUInt8=pos l c
|[],_,_,_=>rfl
|x::l,c,hb,hc=>by
  have ih:=MG l c (λy hy=>hb y (by simp[hy])) hc;have e:=YY (hb x G5) hc;simp only[Lib.bytesOf,bT,Lib.indexByte,e];simp only[Lib.bytesOf]at ih;rw[ih];by_cases hxc:(x==c)=true
  .simp[pos,List.findIdx_cons,hxc]
  .have hf:(x==c)=false:=by simpa using hxc
   simp only[pos,List.findIdx_cons,hf,cond_false,bD];split<;>split<;>simp_all<;>omega
def UJ(o n c:Nat)(hx:xs.length=n)(hb:Bytes xs)(hcv:0<=cv/\cv<256)
  (hc:∀i,i<n->w.cell? ⟨b,o+i,none⟩=some (.int .u8 (xs.getD i 0))):
  ak 258 #[.slice (some ⟨b,o,none⟩) n c,.int .u8 cv] w λe w'=>e=.returned (.int .i64 (pos xs cv))/\w=w':=by
 rw[<-MG xs cv hb hcv];go_enter func258,ntmps258;go_wp2;rw[run_callFunc_extern func280 FZ FZ FZ (e:=Extern.BytealgIndexByte.indexByte) FZ,Lib.run_indexByteSlice w b o n c xs hx hc cv];simp only[Result.andThen];rw[Oper.upon_value];go_wp2;exact eA
def AA.bytes(h:AA w g (B l))(hl:l.length=n):∀i,i<n->w.cell? ⟨g,0+i,none⟩=some (.int .u8 (l.getD i 0)):=by
 intro i hi;rw[dA,h.cell,Zd l i FP];rfl
def put_any(hl:l.length=256)(hb:Bytes l)(hc:0<=c/\c<256):ak 232 #[.agg (B l),.int .u8 c] w λe w'=>(e=.returned (.tuple #[.agg (B (el l c)),.int .i64 (pos l c)]))/\Below w.heap.size w w':=by
 have Hl:Hid (l.length=256):=hl;have Hp:Hid ((el l c).length=256):=Vs hl;have Hc:Hid (0<=c/\c<256):=hc;have Hb:Hid (Bytes l):=hb;have Ht:Hid (Ie l (pos l c)=el l c):=rfl;clear hl hc hb;go_enter func232,ntmps232;have hm:=Mem.nil w
 go_wp2_with(first
  |refine Ho hm rfl rfl rfl ?_;intro w1 g1 hm1;clear hm
  |refine DF hm1 rfl rfl QZ ?_;intro w2 g2 hm2;clear hm1
  |refine A8 rfl (Iq rfl underlying145 ml rfl (off':=0) (len:=256) (cap:=256) 0 256 (.inl ⟨rfl,rfl⟩) (.inl ⟨rfl,rfl⟩) FP FP FP rfl rfl rfl) ?_
  |go_at_call 258;refine(UJ 0 256 256 Hl.o Hb.o Hc.o ((hm2.get 1 rfl).bytes Hl.o)).mono ?_;rintro e w'⟨rfl,rfl⟩
  |refine Ag rfl rfl rfl (hm2.get 1 rfl) (F6 l Hl.o) ?_
  |(go_at_call 218;refine(take_any l (pos l c) Hl.o).mono ?_;rintro e w3⟨rfl,hb3⟩;rw[Ht.o];have hm3:=hm2.call hb3)
  |refine DC 0 hm3 rfl rfl rfl rfl rfl (F6 _ Hp.o) (QI Hp.o DK) Ut ?_;intro w4 hm4;simp only[List.set]at hm4
  |refine Ag rfl rfl rfl (hm4.get 0 rfl) (F6 _ Hp.o) ?_
  |refine DC 0 hm4 rfl rfl rfl rfl rfl (F6 _ Hp.o) rfl Ut ?_;intro w5 hm5;simp only[List.set]at hm5)
 refine aD (Af rfl rfl (hm5.get 0 rfl) (F6 _ Hp.o)) rfl ⟨rfl,hm5.below⟩
end
open Go Go.RowKit
structure Vl(l:ac):Prop where
 len:l.length=256
 bytes:Bytes l
 all:∀c,0<=c->c<256->c∈l
def BZ(l:ac)(k:Nat)(h:k<l.length):gi l k=l[k]:=by
 simp[gi,fU,fe h]
def cI(l:ac)(k:Nat)(h:k<l.length):gi l k∈l:=by rw[BZ l k h];exact dF h
def Bytes.gi{l:ac}(hb:Bytes l)(k:Nat)(h:k<l.length):0<=gi l k/\YtkpbhdhkdonghaaGreat.gi l k<256:=hb _ (cI l k h)
def iT(k:Nat)(h:k<256):new[k]?=some (k:Int):=by
 simp only[new,Jh,jH,kY h,jE,aQ h]
def nl:Vl new:=by
 refine⟨FW,?_,?_⟩
 .intro x hx;obtain⟨k,hk,rfl⟩:=uh hx;have hk':k<256:=by rw[FW]at hk;exact hk
  have:=iT k hk';rw[fe hk]at this;simp only[oG]at this;omega
 .intro c h0 h1;obtain⟨k,rfl⟩:=dB h0;exact dT (iT k FP)
def dX(l:ac)(k:Nat)(h:k<l.length):(front l k).Perm l:=by
 rw[front,BZ l k h,Fb];have e:l.take k++l[k]::l.drop (k+1)=l:=by rw[<-jg h,kC]
 exact List.perm_middle.symm.trans (by rw[e])
def Vl.front{l:ac}(h:Vl l)(k:Nat)(hk:k<256):Vl (front l k):=by
 have hp:=dX l k (by rw[h.len];exact hk);exact⟨hp.length_eq.trans h.len,λx hx=>h.bytes x (hp.mem_iff.1 hx),λc h0 h1=>hp.mem_iff.2 (h.all c h0 h1)⟩
def Vl.Ie{l:ac}(h:Vl l)(p:Int):Vl (Ie l p):=by
 unfold YtkpbhdhkdonghaaGreat.Ie;split
 .exact h.front _ FP
 .exact h
def Vl.el{l:ac}(h:Vl l)(c:Int):Vl (el l c):=h.Ie _
def ID{l:ac}(h:Vl l){c:Int}(h0:0<=c)(h1:c<256):0<=pos l c/\pos l c<256:=by
 have hf:l.findIdx (· ==c)<l.length:=List.findIdx_lt_length_of_exists ⟨c,h.all c h0 h1,G5⟩;rw[pos,aQ hf];have:=h.len;omega
def Ka:ac->ac->ac
|_,[]=>[]
|l,p::b=>takeC l p::Ka (Ie l p) b
def back(b:ac):ac:=Ka new b
def FQ(b:ac)(k:Nat)(h:k<b.length):b.take (k+1)=b.take k++[gi b k]:=by
 rw[kW h,BZ b k h]
def P7{k:Ob}{a b:ac}:vs k (a++b)=vs k a++vs k b:=by simp[vs]
def T8(l:ac)(hl:l.length=256):ly l=true↔∀c,0<=c->c<256->c∈l:=by
 have ht:l.take 256=l:=jC FP;rw[ly,iI]
 constructor
 .intro h c h0 h1;obtain⟨i,rfl⟩:=dB h0;have hi:i<256:=FP
  have e:(Ew l 256)[i]?=ones[i]?:=by rw[h]
  simp only[Ew,ones,one,jH,kY hi,jE,aQ hi,oG,ht]at e;by_cases hc:l.contains (i:Int)=true
  .simpa using hc
  .rw[aP hc]at e;exact absurd e FU
 .intro h;unfold Ew ones one;apply zX;intro i hi;have hi:i<256:=dS.1 hi;have:=h i FP FP;rw[ht,aQ (by simpa using this),aQ hi]
def v7{l:ac}(hl:l.length=256)(hb:Bytes l):ly l=true↔Vl l:=by
 rw[T8 l hl];exact⟨λh=>⟨hl,hb,h⟩,λh=>h.all⟩
def XT{l:ac}(h:Vl l){p:Int}:0<=takeC l p/\takeC l p<256:=by
 unfold takeC;split
 .exact h.bytes.gi _ KH
 .omega
def last(b:ac)(i:Nat):Int:=if i=0 then 0 else gi b (i-1)
end Go.Proofs.YtkpbhdhkdonghaaGreat
