/- Part 12 of the proof. -/
import Derived.Lib.MakeNoZero
import Derived.Deep.CutRange
import Derived.Test.YtkpbhdhkdonghaaGreatS11
set_option linter.all false
set_option maxHeartbeats 4000000
set_option maxRecDepth 100000
namespace Go.Proofs.YtkpbhdhkdonghaaGreat
open Go Tryz Go.RowKit
section
variable{a:OA}{A:Addr}{ops:bl}{cs:ai}{Q:Exit->aJ}{q1 q2:Ob}{l:ac}{rest:bt}{ss:O1}{xs:ar}{bp c cp dCap dLen g h k m n off sCap sLen:Nat}{o:Oz}{u x y:O7}{ad:Ov}{P:O8}{rs:ae}{e elem t t':O4}{i:Oy}{z:NY}{w w' w0:FC}{S:OE}
def SG(q:Nat)(hq:q<2^32):bits .and .u64 (q:Int) 4294967295=(q:Int):=by
 have h1:(BitVec.ofInt 64 (q:Int)).toNat=q:=by
  rw[xU,Cj];exact xX FP
 have h2:(BitVec.ofInt 64 (4294967295:Int)).toNat=4294967295:=rfl;show IntKind.u64.wrap ((BitVec.ofInt 64 (q:Int)&&&BitVec.ofInt 64 (4294967295:Int)).toNat:Int)=_
 have h3:q&&&4294967295=q:=by
  have:=Nat.and_two_pow_sub_one_eq_mod q 32;rw[show(4294967295:Nat)=2^32-1 from rfl,this,xX hq]
 rw[BitVec.toNat_and,h1,h2,h3];exact lu _ FP
def a02(hk:k<2^32):ak 291 #[.int .u64 1,.int .u64 k] w (RB w (.tuple #[.int .u64 0,.int .u64 k])):=by
 have m1:bits .and .u64 1 4294967295=1:=SG 1 FP;have m2:=SG k hk;have m3:bits .and .u64 0 4294967295=0:=SG 0 FP;have v1:IntKind.u64.wrap (k:Int)=k:=lu _ FP;have v0:IntKind.u64.wrap (0:Int)=0:=lu _ FP;have d1:(k:Int)/4294967296=0:=FP
 have hkk:(k:Int)<4294967296:=FP
 go_enter func291,ntmps291;exact vj
def Yu(k:Nat)(hk:k<2^32):ak 278 #[.int .u64 1,.int .u64 k] w (RB w (.tuple #[.int .u64 0,.int .u64 k])):=by
 go_enter func278,ntmps278;have hm:=Own.nil w
 go_wp2_with(first
 |(go_at_call 291;have _t:=hm;refine(a02 hk).mono ?_;rintro e w1⟨rfl,hb1⟩;have hm1:=hm.call hb1;clear hm))
 go_ret2
 exact ow
def Jl 
  (ho:o.op=.call {callee:=.builtin .copy,args:=#[x,y],argTypes:=#[t,t']})(hu:P.underlying t=some (.slice elem))(hs:(P.info? elem).map (·.size)=some 1)
  (hx:a.eval x=.slice (some ⟨g,off,none⟩) dLen dCap)(hy:a.eval y=.slice (some A) sLen sCap)
  (hg:AA w g cs)(hn:xs.length=Nat.min sLen dLen)(hc:∀j v,xs[j]?=some v->w.cell? (A.add j)=some v)(hfit:off+xs.length<=cs.size)(h1:∀v∈xs,v.oneCell'=true):
  (execOp a.eval o).run P w=.ok (.value (.int .i64 xs.length)) (w.setRow g (splice cs off xs.toArray)):=by
 obtain⟨tt,hg⟩:=hg;have hrun:=run_copy_row P w t t' o.type elem g off dLen dCap A sLen sCap cs tt xs hu hs hg hn hc hfit h1;have e:(cs.toList.take off++xs++cs.toList.drop (off+xs.length)).toArray=splice cs off xs.toArray:=by simp[splice]
 rw[e]at hrun;unfold execOp;simp only[ho,resolve,invoke,builtin,aL,bw,aS,cM,bT,bZ,hx,hy,hrun,goInt]
def GH{v:NY}(h:cs.toList.take bp=List.replicate bp v):(splice cs bp (List.replicate m v).toArray).toList.take (bp+m)=List.replicate (bp+m) v:=by
 have h1:(splice cs bp (List.replicate m v).toArray).toList=List.replicate (bp+m) v++cs.toList.drop (bp+m):=by
  simp only[splice,h,List.replicate_append_replicate,gX,fp]
 rw[h1,zY G5]
def GK{v:NY}(h:bp+m<=cs.size):(splice cs bp (List.replicate m v).toArray).size=cs.size:=by
 simp[splice];omega
def a0s{j:Nat}{v:NY}(h:cs.toList.take bp=List.replicate bp v)(hj:j<bp):cs[j]?=some v:=by
 have h2:(cs.toList.take bp)[j]?=some v:=by rw[h];simp[hj]
 rw[List.getElem?_take,aQ hj,cE]at h2;exact h2
def FI(w:FC)(l:ac)(x:Ending)(w':FC):Prop:=(∃g cells,x=.returned (.slice (some ⟨g,0,none⟩) l.length l.length)/\AA w' g cells/\w.heap.size<=g/\cells.toList.take l.length=vs .u8 l)/\Below w.heap.size w w'
def Yc:ak 251 #[.slice (some A) 1 cp,.int .i64 0] w (FI w []):=by
 go_enter func251,ntmps251;have hm:=Own.nil w
 go_wp2_with fail
 go_ret;have hm1:=hm.alloc #[] 5;exact⟨⟨_,_,rfl,hm1.row 0 rfl,aX _,rfl⟩,hm1.below⟩
def a1D{ts:Array TypeId}(ho:o.op=.call {callee:=.value (.func 279),args:=#[x],argTypes:=ts})(hx:a.eval x=.int .i64 n)(hn:n<=281474976710656):
  ∃cs:ai,(execOp a.eval o).run prog w=.ok (.value (.slice (some ⟨w.heap.size,0,none⟩) n cs.size)) (w.drew.drew.alloc (.cells cs 5))/\n<=cs.size:=by
 obtain⟨cs,hr,h1,_⟩:=Lib.run_makeNoZero (P:=prog) w #[3] 22 5 underlying22 n hn;refine⟨cs,?_,h1⟩;have hf:a.eval (Operand.func 279)=.func (.func 279) #[] #[]:=rfl;unfold execOp;simp only[ho,resolve,invoke,aL,cM,bT,bZ,hx,hf];simp[go_sem,run_callFunc_extern func279 FZ FZ FZ (e:=Extern.BytealgMakeNoZero.makeNoZero #[3] #[22]) FZ,hr]
def su{bytes:Nat}(he:Gv P t e i z bytes)(h2:h<=c):
  (Instr.sliceAt t (.slice ad n c) none (some (.int q1 h)) (some (.int q2 h))).run P w=.ok (.slice (D8 ad h 0) h h) w:=by
 have hh0:(0:Int)<=h:=FP
 have hhc:(h:Int)<=c:=FP
 unfold Instr.sliceAt;rw[aL,bL he.under];simp only[aS];unfold Instr.slice;rw[aL,bL he.under];simp only[aS];simp[Instr.sliceBounds,Instr.sliceBound,asIntOf,sizeOf,typeInfo,he.info,D8,h2,Result.andThen]
def VI{bytes:Nat}(ho:o.op=.slice t x none (some y) (some u))(he:Gv P t e i z bytes)(hx:a.eval x=.slice ad n c)(hy:a.eval y=.int .i64 h)(hu:a.eval u=.int .i64 h)(h2:h<=c):
  (execOp a.eval o).run P w=.ok (.value (.slice (D8 ad h 0) h h)) w:=by
 unfold execOp;simp only[ho,hx,hy,hu,aL,xZ,jE,su he h2,aS,bw]
def Ig:D8 g h 0=some ⟨g,0,none⟩:=by
 unfold D8;split
 .rfl
 .simp[fQ]
def Le(g h i:Nat)(hi:i<h):D8 g h i=some ⟨g,i,none⟩:=by
 unfold D8;rw[aP FP];simp[fQ]
def Iz(h:AA w g cs)(k:Nat){v:NY}(e:cs[k]?=some v):w.cell? ((⟨g,0,none⟩:Addr).add k)=some v:=by
 rw[fQ,dA,h.cell,e]
def RS{i:Nat}{r:Ou}{v:NY}(ho:ops.toList[i]?=some o)(hw:MZ o ops a)
  (hrun:(execOp a.eval o).run P w=.ok (.value v) w')(hS:S w')(h:Ej P ops Q r S (a.put o.dst v) w'):Ej P ops Q ((i,false)::r) S a w:=
 A07 I8 hw hrun hS h
def DU{v:NY}(hg:MZ o ops a)
  (hrun:(execOp a.eval o).run P w=.ok (.value v) w)(h:wpList P ops Q rest (a.put o.dst v) w):wpList P ops Q (o::rest) a w:=A8 hg hrun h
def Rf(hm:Own w0 w rs ss)(hg:MZ o ops a){ts:Array TypeId}(ho:o.op=.call {callee:=.value (.func 279),args:=#[x],argTypes:=ts})(hx:a.eval x=.int .i64 n)(hn:n<=281474976710656)
  (h:∀w' g cs,n<=cs.size->Own w0 w' ((g,cs)::rs) ss->wpList prog ops Q rest (a.put o.dst (.slice (some ⟨g,0,none⟩) n cs.size)) w'):wpList prog ops Q (o::rest) a w:=by
 obtain⟨cs,hr,hN⟩:=a1D ho hx hn;exact A8 hg hr (h _ _ cs hN ((hm.call ((Below.refl w.heap.size w).drew.drew)).alloc cs 5))
def Own.QW(h:Own w0 w rs ss)(hb:Below w.heap.size w w'){cells:ai}(hr:AA w' g cells)(hg:w.heap.size<=g):Own w0 w' ((g,cells)::rs) ss:=by
 have h':=h.call hb;refine⟨⟨h'.mem.below,?_,?_,?_⟩,h'.sl,?_⟩
 .intro p hp;rcases dh.1 hp with rfl|hp
  .exact jy h.below.size hg
  .exact h'.mem.own p hp
 .intro p hp;rcases dh.1 hp with rfl|hp
  .exact hr
  .exact h'.mem.rows p hp
 .rw[bT,dR];refine⟨λhm=>?_,h'.mem.apart⟩;exact qJ
 .rw[bT,jv];obtain⟨h1,h2,h3⟩:=jv.1 h.apart;refine⟨h1,?_,?_⟩
  .rw[dR];refine⟨λhm=>?_,h2⟩;exact qJ
  .intro a ha b hb2;rcases dh.1 hb2 with rfl|hb2
   .have:=(h.rJ a ha).2;omega
   .exact h3 a ha b hb2
def a0N{cells:ai}(h:AA w g cells)(ht:cells.toList.take l.length=vs .u8 l):∀j u,(vs .u8 l)[j]?=some u->w.cell? ((⟨g,0,none⟩:Addr).add j)=some u:=by
 intro j u hj;rw[<-ht,List.getElem?_take]at hj;split at hj
 .exact Iz h j (by rw[<-cE];exact hj)
 .cases hj
def SY{α:Type}{j:Nat}{v u:α}(h:(List.replicate n v)[j]?=some u):u=v/\j<n:=by
 obtain⟨h1,h2⟩:=gI.1 h;rw[fp]at h1;exact⟨by rw[<-h2];simp,h1⟩
def WS{c:Int}(hk0:0<k)(hk:k<=65536)(hA:w.cell? A=some (.int .u8 c))(hs:¬8192<k):ak 251 #[.slice (some A) 1 cp,.int .i64 k] w (FI w (List.replicate k c)):=by
 have n1:((k:Int)==0)=false:=by simp;omega
 have n2:¬(k:Int)=0:=FP
 have n3:¬(k:Int)<0:=FP
 have v1:IntKind.u64.wrap (k:Int)=k:=lu _ FP;have v2:IntKind.u64.wrap (1:Int)=1:=lu _ FP;have v3:IntKind.i64.wrap (k:Int)=k:=av;have n4:decide ((9223372036854775807:Int)<k)=false:=an;have b1:¬(8192:Int)<k:=FP
 have b2:decide ((8192:Int)<k)=false:=aU b1;clear hs;have HA:=aa hA;clear hA;obtain⟨i5,hE⟩:=Md;have HE:=aa hE;clear hE;go_enter func251,ntmps251;have hm:=Own.nil w
 go_upto_region 16 with(first
 |(go_at_call 278;have _t:=hm;refine(Yu k FP).mono ?_;rintro e w1⟨rfl,hb1⟩;have hm1:=hm.call hb1;clear hm))
 apply wp_region_lit;refine DU rfl (by go_simp;rfl) ?_;simp only[Act.put,s3];refine Rf hm1 rfl rfl (n:=k) rfl FP ?_;intro w2 g cs hN hm2;clear hm1
 try simp only[Act.put,s3]
 refine DU rfl (by go_simp;rfl) ?_;simp only[Act.put,s3];refine DU rfl (by go_simp;rfl) ?_;simp only[Act.put,s3];refine A8 rfl (VI rfl HE.o rfl rfl rfl hN) ?_;rw[Ig];simp only[Act.put,s3];refine DU rfl (by go_simp;rfl) ?_;simp only[Act.put,s3];refine wpList_nil ?_;go_simp
 have hcp:∀(cells:ai)(W:FC),Own w W [(g,cells)] []->∀j u,[Value.int .u8 c][j]?=some u->W.cell? (A.add j)=some u:=by
  intro cells W hW j u hj
  match j with
 |0=>
   exact Mi
 |j+1=>simp at hj
 go_wp2_with(first
 |(refine A8 rfl (Jl (xs:=[.int .u8 c]) rfl underlying22 ml rfl rfl (hm2.row 0 rfl) (by simp[uQ];omega) (hcp cs _ hm2) (by simp only[bD,bW];omega) (Yl rfl)) ?_;have hm3:=hm2.setRow 0 (splice cs 0 [Value.int .u8 c].toArray) rfl;simp only[List.set]at hm3;clear hm2))
 have hsz:=GK (cs:=cs) (bp:=0) (m:=1) (v:=.int .u8 c) FP;have htk:=GH (cs:=cs) (bp:=0) (m:=1) (v:=.int .u8 c) rfl
 go_loopw[10] (λu wr=>∃(bp:Nat)(cells:ai),1<=bp/\bp<=k/\u=.int .i64 bp/\k<=cells.size/\Hid (cells.toList.take bp=List.replicate bp (.int .u8 c))/\Own w wr [(g,cells)] []) (λu _=>k-(intOf u).toNat)
 case atStart=>exact⟨1,_,FP,FP,rfl,by rw[hsz];exact hN,htk,hm3⟩
 case round=>
  obtain⟨bp,cells,h1,hbk,rfl,hN2,HT,hmr⟩:=hrel;clear hm3 hsz htk;by_cases hlt:bp<k
  .have q1:¬(k:Int)<bp:=FP
   exact Mo
  .exact MU
def bK{c:Int}(hk0:0<k)(hk:k<=65536)(hA:w.cell? A=some (.int .u8 c))(hs:8192<k):ak 251 #[.slice (some A) 1 cp,.int .i64 k] w (FI w (List.replicate k c)):=by
 have n1:((k:Int)==0)=false:=by simp;omega
 have n2:¬(k:Int)=0:=FP
 have n3:¬(k:Int)<0:=FP
 have v1:IntKind.u64.wrap (k:Int)=k:=lu _ FP;have v2:IntKind.u64.wrap (1:Int)=1:=lu _ FP;have v3:IntKind.i64.wrap (k:Int)=k:=av;have n4:decide ((9223372036854775807:Int)<k)=false:=an;have b1:(8192:Int)<k:=FP
 have b2:decide ((8192:Int)<k)=true:=aW b1;have HA:=aa hA;clear hA;obtain⟨i5,hE⟩:=Md;have HE:=aa hE;clear hE;go_enter func251,ntmps251;have hm:=Own.nil w
 go_upto_region 16 with(first
 |(go_at_call 278;have _t:=hm;refine(Yu k FP).mono ?_;rintro e w1⟨rfl,hb1⟩;have hm1:=hm.call hb1;clear hm))
 apply wp_region_lit;refine DU rfl (by go_simp;rfl) ?_;simp only[Act.put,s3];refine Rf hm1 rfl rfl (n:=k) rfl FP ?_;intro w2 g cs hN hm2;clear hm1
 try simp only[Act.put,s3]
 refine DU rfl (by go_simp;rfl) ?_;simp only[Act.put,s3];refine DU rfl (by go_simp;rfl) ?_;simp only[Act.put,s3];refine A8 rfl (VI rfl HE.o rfl rfl rfl hN) ?_;rw[Ig];simp only[Act.put,s3];refine DU rfl (by go_simp;rfl) ?_;simp only[Act.put,s3];refine wpList_nil ?_;go_simp
 have hcp:∀(cells:ai)(W:FC),Own w W [(g,cells)] []->∀j u,[Value.int .u8 c][j]?=some u->W.cell? (A.add j)=some u:=by
  intro cells W hW j u hj
  match j with
 |0=>
   exact Mi
 |j+1=>simp at hj
 go_wp2_with(first
 |(refine A8 rfl (Jl (xs:=[.int .u8 c]) rfl underlying22 ml rfl rfl (hm2.row 0 rfl) (by simp[uQ];omega) (hcp cs _ hm2) (by simp only[bD,bW];omega) (Yl rfl)) ?_;have hm3:=hm2.setRow 0 (splice cs 0 [Value.int .u8 c].toArray) rfl;simp only[List.set]at hm3;clear hm2))
 have hsz:=GK (cs:=cs) (bp:=0) (m:=1) (v:=.int .u8 c) FP;have htk:=GH (cs:=cs) (bp:=0) (m:=1) (v:=.int .u8 c) rfl
 go_loopw[10] (λu wr=>∃(bp:Nat)(cells:ai),1<=bp/\bp<=k/\u=.int .i64 bp/\k<=cells.size/\Hid (cells.toList.take bp=List.replicate bp (.int .u8 c))/\Own w wr [(g,cells)] []) (λu _=>k-(intOf u).toNat)
 case atStart=>exact⟨1,_,FP,FP,rfl,by rw[hsz];exact hN,htk,hm3⟩
 case round=>
  obtain⟨bp,cells,h1,hbk,rfl,hN2,HT,hmr⟩:=hrel;clear hm3 hsz htk;by_cases hlt:bp<k
  .by_cases hb8:8192<bp
   .have q1:(8192:Int)<bp:=FP
    go_wp2_with fail
    obtain⟨m,hmm⟩:∃m,m=Nat.min 8192 (k-bp):=⟨_,rfl⟩;have hm0:1<=m/\m<=8192/\m<=k-bp:=by rw[hmm];simp only[uQ];split<;>omega
    have HMM:=aa hmm;clear hmm;have hwm:IntKind.i64.wrap ((bp:Int)+(m:Int))=(bp:Int)+m:=av;have hS8:Below w.heap.size w {wr with drawn:=wr.drawn+1}:=(hmr.drawn (wr.drawn+1)).below;refine D7 [(0,true),(1,true),(2,true),(3,true),(4,true),(5,true),(6,true),(7,false),(8,true),(9,true)] (λW=>Below w.heap.size w W) rfl FZ rfl FZ (λ_ _ d _ _ h=>by cases d<;>exact h) hS8 ?_;have hn:=hmr.drawn (wr.drawn+1);clear hS8;generalize ({wr with drawn:=wr.drawn+1}:FC)=wn at hn⊢;clear hmr;refine Ah rfl rfl (λW hW=>by go_simp;rfl) ?_;simp only[Act.put,s3];refine Ah rfl rfl (λW hW=>by go_simp;rfl) ?_;simp only[Act.put,s3];refine Ah rfl rfl (λW hW=>by go_simp;rfl) ?_;simp only[Act.put,s3];refine Ah rfl rfl (λW hW=>ew rfl HE.o rfl (.inr ⟨_,rfl⟩) (.inl ⟨rfl,rfl⟩) hbk (aX _)) ?_;rw[Le g k bp hlt]
    simp only[Act.put,s3];refine Ah rfl rfl (λW hW=>by go_simp;rfl) ?_;simp only[Act.put,s3];refine Ah rfl rfl (λW hW=>by go_simp;rfl) ?_;simp only[Act.put,s3];refine Ah rfl rfl (λW hW=>ew (l:=0) (h:=8192) rfl HE.o rfl (.inl ⟨rfl,rfl⟩) (.inr ⟨_,rfl⟩) (dD _) FP) ?_;exact AW
   .have q1:¬(8192:Int)<bp:=FP
    exact Mo
  .exact MU
def Rz(c:Int){v:NY}(k:Nat)(w:FC)(hk:k<=65536)(A:Addr)(cp:Nat)(hv:v=.slice (some A) 1 cp)(hA:w.cell? A=some (.int .u8 c)):ak 251 #[v,.int .i64 k] w (FI w (List.replicate k c)):=by
 subst hv;by_cases h0:k=0
 .subst h0;exact Yc
 by_cases hs:8192<k
 .exact bK FP hk hA hs
 .exact WS FP hk hA hs
end
section
variable{A:Addr}{cs:ai}{a l live p peak:Int}{ss:O1}{c g ga gd h m n:Nat}{o:Oz}{u x y:O7}{ad:Ov}{P:O8}{rs:ae}{e t t':O4}{i:Oy}{z:NY}{w w0:FC}
def AR(d:NY)(live peak:Int):ai:=#[d,.int .i64 live,.int .i64 peak]
def SP(at_ len:Int):ai:=#[.int .i64 at_,.int .i64 len]
def am:Nat->Nat->OT
|_,0=>.done
|i,n+1=>.rd i (am (i+1) n)
def AA.keep(h:AA w g cs):∀W,Below w.heap.size w W->AA W g cs:=λW hb=>by
 obtain⟨t,ht⟩:=h;exact⟨t,(hb.block g (ji.1 ht).1).trans ht⟩
def lw{n:Int}:(SP a n)[0]?=some (.int .i64 a):=rfl
def lN{n:Int}:(SP a n)[1]?=some (.int .i64 n):=rfl
def mK{d:NY}:(AR d l p)[0]?=some d:=rfl
def lE{d:NY}:(AR d l p)[1]?=some (.int .i64 l):=rfl
def L7{d:NY}:(AR d l p)[2]?=some (.int .i64 p):=rfl
def ZW:Aq prog 50 2:=Aq.mk' underlying50 rfl FZ
def yw{n:Int}:∀v∈SP a n,v.oneCell'=true:=λv hv=>by
 simp only[SP,List.mem_toArray,dh,qL,qM]at hv;rcases hv with rfl|rfl<;>rfl
def vZ{d:NY}{n:Int}(hr:AA w ga (AR d live peak))(h0:0<=a)(h1:0<=n)(h2:a+n<=live)(h3:live<=1048576):ak 64 #[ga,.agg (SP a n)] w (RB w (.bool true)):=by
 have q1:decide (0<=a)=true:=aW h0;have q2:decide (0<=n)=true:=aW h1;have q3:decide (a<=live)=true:=az;have q4:decide (n<=live-a)=true:=az;have hw:IntKind.i64.wrap (live-a)=live-a:=av;clear h0 h1 h2 h3;go_enter func64,ntmps64;have hm:=Own.nil w
 go_wp2_with(first
 |refine Ar hm rfl rfl rfl ?_;intro w1 g hm1;clear hm)
 have HR:=aa hr.keep;clear hr;refine IL (am 0 34) (λW=>Below w.heap.size w W/\AA W g (SP a n)/\AA W ga (AR d live peak)) rfl FZ rfl FZ (λ_ _ d _ _ h=>by cases d<;>exact h) ⟨(hm1.drawn (w1.drawn+1)).below,(hm1.drawn (w1.drawn+1)).row 0 rfl,HR.o _ (hm1.drawn (w1.drawn+1)).below⟩ ?_;have hn:=hm1.drawn (w1.drawn+1);generalize ({w1 with drawn:=w1.drawn+1}:FC)=wn at hn⊢;clear hm1 HR;simp only[am]
 repeat((first
 |refine EW rfl rfl (λW hW=>Aa (off:=0) rfl rfl hW.2.1 DR lw) ?_
 |refine EW rfl rfl (λW hW=>Aa (off:=1) rfl rfl hW.2.1 DR lN) ?_
 |refine EW rfl rfl (λW hW=>Aa (off:=1) rfl rfl hW.2.2 DR lE) ?_
 |refine EW rfl rfl (λW hW=>by go_simp;rfl) ?_);(try simp only[Act.put,s3]))
 refine XI ?_;go_simp;go_wp2;go_ret;exact⟨rfl,hn.below⟩
def rZ{bytes:Nat}(he:Gv P t e i z bytes){l:Nat}(h1:l<=h)(h2:h<=m)(h3:m<=c):
  (Instr.sliceAt t (.slice ad n c) (some (.int .i64 l)) (some (.int .i64 h)) (some (.int .i64 m))).run P w=.ok (.slice (D8 ad m l) (h-l) (m-l)) w:=by
 unfold Instr.sliceAt;rw[aL,bL he.under];simp only[aS];unfold Instr.slice;rw[aL,bL he.under];simp only[aS];simp[Instr.sliceBounds,Instr.sliceBound,asIntOf,sizeOf,typeInfo,he.info,he.size,D8,h1,h2,h3,Result.andThen]
def nK{a:OA}{bytes:Nat}{v:O7}(ho:o.op=.slice t x (some y) (some u) (some v))(he:Gv P t e i z bytes){l:Nat}(hx:a.eval x=.slice ad n c)(hy:a.eval y=.int .i64 l)(hu:a.eval u=.int .i64 h)(hv:a.eval v=.int .i64 m)(h1:l<=h)(h2:h<=m)(h3:m<=c):
  (execOp a.eval o).run P w=.ok (.value (.slice (D8 ad m l) (h-l) (m-l))) w:=by
 unfold execOp;simp only[ho,hx,hy,hu,hv,aL,jE,rZ he h1 h2 h3,aS,bw]
def Eo{n:Int}:Aq prog 50 (SP a n).size:=ZW
def iJ(L:Nat){a:Nat}(i k:Nat)(hr:AA w ga (AR (.slice gd L L) live peak))(h1:(a:Int)+n<=live)(h2:live<=L)(h3:L<=1048576)(h4:i+k<=n)(h5:0<k):ak 162 #[ga,.agg (SP a n),.int .i64 i,.int .i64 k] w (RB w (.slice (some ⟨gd,a+i,none⟩) k k)):=by
 have CH:Hid (∀W,AA W ga (AR (.slice gd L L) live peak)->ak 64 #[ga,.agg (SP a n)] W (RB W (.bool true))):=λW h=>vZ h FP FP h1 FP;have HR:=aa hr.keep;have q1:decide ((i:Int)<0)=false:=an;have q2:decide ((n:Int)-k<i)=false:=an;have w1:IntKind.i64.wrap ((n:Int)-k)=(n:Int)-k:=av;have w2:IntKind.i64.wrap ((i:Int)+a)=((a+i:Nat):Int):=by rw[aZ _ FP];push_cast;omega
 have w3:IntKind.i64.wrap (((a+i:Nat):Int)+k)=((a+i+k:Nat):Int):=by rw[aZ _ FP];push_cast;omega
 have c1:a+i<=a+i+k:=FP
 have c2:a+i+k<=L:=FP
 have HS:Hid (Value.slice (D8 gd (a+i+k) (a+i)) (a+i+k-(a+i)) (a+i+k-(a+i))=.slice (some ⟨gd,a+i,none⟩) k k):=aa (by rw[Le _ _ _ FP,show a+i+k-(a+i)=k by omega]);obtain⟨i5,hE⟩:=Md;have HE:=aa hE;clear hr h1 h2 h3 h4 h5 hE;generalize a+i=p at*;generalize p+k=e at*;go_enter func162,ntmps162;have hm:=Own.nil w
 go_wp2_with(first
 |refine Ar hm rfl rfl rfl ?_;intro w1 g hm1;clear hm
 |refine Ag rfl rfl rfl (hm1.row 0 rfl) Eo ?_
 |(go_at_call 64;have _t:=hm1;refine(CH.o _ (HR.o _ hm1.below)).mono ?_;rintro x w2⟨rfl,hb2⟩;have hm2:=hm1.call hb2;clear hm1)
 |refine A8 rfl (Aa (off:=1) rfl rfl (hm2.row 0 rfl) DR lN) ?_
 |refine A8 rfl (Aa (off:=0) rfl rfl (hm2.row 0 rfl) DR lw) ?_
 |refine A8 rfl (Aa (off:=0) rfl rfl (HR.o _ hm2.below) iO mK) ?_
 |refine A8 rfl (nK rfl HE.o rfl rfl rfl rfl c1 (aX _) c2) ?_)
 go_ret;exact⟨by rw[<-HS.o];rfl,hm2.below⟩
def WL(w:FC)(d:Nat)(t e:O4)(A:Addr)(n c:Nat)(h:P.underlying t=some (.slice e)):(Op.equalIn (d+1) t (.slice (some A) n c) (.slice none 0 0)).run P w=.ok false w:=by
 simp[Op.equalIn,bL h]
def Qi(w:FC)(A:Addr)(n c:Nat):(Op.equal 22 (.slice (some A) n c) (.slice none 0 0)).run prog w=.ok false w:=WL w 9999 22 5 A n c underlying22
def TF{a:OA}(ho:o.op=.binOp .eql 22 x y t')(hx:a.eval x=.slice (some A) n c)(hy:a.eval y=.slice none 0 0):(execOp a.eval o).run prog w=.ok (.value (.bool false)) w:=by
 unfold execOp;simp[ho,hx,hy,eqGuard,binOp,Qi,Result.andThen]
def Zn{a:OA}{bytes:Nat}(ho:o.op=.indexAddr t x y)(he:Gv P t e i z bytes){p:Nat}(hx:a.eval x=.slice (some ⟨g,p,none⟩) n c)(hy:a.eval y=.int .i64 0)(hk:0<n):
  (execOp a.eval o).run P w=.ok (.value (.pointer (some ⟨g,p,none⟩))) w:=by
 have h:=Am (P:=P) (w:=w) ho he hx (k:=0) hy rfl hk;rw[h,fQ,mW]
def k8(ga:Nat)(a n i:Nat)(l:ac)(live peak:Int)(hr:AA w ga (AR (.slice gd l.length l.length) live peak))(hd:AA w gd (B l))(h1:(a:Int)+n<=live)(h2:live<=l.length)(h3:l.length<=1048576)(h4:i<n):ak 116 #[ga,.agg (SP a n),.int .i64 i] w (RB w (.tuple #[.int .u8 (gi l (a+i)),.bool true])):=by
 have CP:Hid (∀W,Below w.heap.size w W->ak 162 #[ga,.agg (SP a n),.int .i64 i,.int .i64 1] W (RB W (.slice (some ⟨gd,a+i,none⟩) 1 1))):=λW h=>iJ l.length i 1 (hr.keep W h) h1 h2 h3 FP FP;have HD:=aa hd.keep;have hg:(B l)[a+i]?=some (.int .u8 (gi l (a+i))):=Zd l (a+i) FP;obtain⟨i5,hE⟩:=Md;have HE:=aa hE;clear hr hd h1 h2 h3 h4 hE;generalize a+i=p at*;go_enter func116,ntmps116;have hm:=Own.nil w
 go_wp2_with(first
 |refine Ar hm rfl rfl rfl ?_;intro w1 g hm1;clear hm
 |refine Ag rfl rfl rfl (hm1.row 0 rfl) Eo ?_
 |(go_at_call 162;have _t:=hm1;refine(CP.o _ hm1.below).mono ?_;rintro x w2⟨rfl,hb2⟩;have hm2:=hm1.call hb2;clear hm1)
 |refine A8 rfl (TF rfl rfl rfl) ?_
 |refine A8 rfl (Zn rfl HE.o rfl rfl FU) ?_
 |refine A8 rfl (Aa (off:=p) rfl rfl (HD.o _ hm2.below) FV hg) ?_)
 go_ret2
 exact kZ
def sM(a:Nat)(i:Nat)(l:ac)(c live peak:Int)(ja jd:Nat)(hm:Own w0 w rs ss)(hja:rs[ja]?=some (ga,AR (.slice gd l.length l.length) live peak))(hjd:rs[jd]?=some (gd,B l))(h1:(a:Int)+n<=live)(h2:live<=l.length)(h3:l.length<=1048576)(h4:i<n):ak 189 #[ga,.agg (SP a n),.int .i64 i,.int .u8 c] w (RO (.bool true) w0 (rs.set jd (gd,B (l.set (a+i) c))) ss):=by
 have CP:Hid (∀W,AA W ga (AR (.slice gd l.length l.length) live peak)->ak 162 #[ga,.agg (SP a n),.int .i64 i,.int .i64 1] W (RB W (.slice (some ⟨gd,a+i,none⟩) 1 1))):=λW h=>iJ l.length i 1 h h1 h2 h3 FP FP;have hg:(B l).setIfInBounds (a+i) (.int .u8 c)=B (l.set (a+i) c):=ky l (a+i) c;have hlt:a+i<(B l).size:=by rw[Ih];omega
 obtain⟨i5,hE⟩:=Md;have HE:=aa hE;have HA:=aa hja;have HD:=aa hjd;clear h1 h2 h3 h4 hE hja hjd;generalize a+i=p at*;go_enter func189,ntmps189
 go_wp2_with(first
 |refine Ar hm rfl rfl rfl ?_;intro w1 g hm1;clear hm
 |refine Ag rfl rfl rfl (hm1.row 0 rfl) Eo ?_
 |(go_at_call 162;have _t:=hm1;refine(CP.o _ (hm1.row (ja+1) HA.o)).mono ?_;rintro x w2⟨rfl,hb2⟩;have hm2:=hm1.call hb2;clear hm1)
 |refine A8 rfl (TF rfl rfl rfl) ?_
 |refine A8 rfl (Zn rfl HE.o rfl rfl FU) ?_
 |refine BL (v:=.int .u8 c) (jd+1) hm2 rfl rfl rfl rfl HD.o FV hlt rfl rfl hg ?_;intro w3 hm3;simp only[List.set]at hm3;clear hm2)
 go_ret;exact⟨rfl,hm3.dropRow⟩
end
section
variable{a:OA}{live peak:Int}{l:ac}{ss:O1}{ga gd:Nat}{o:Oz}{x y:O7}{rs:ae}{t':O4}{w w0:FC}
def OwnB(w:FC)(l:ac)(x:Ending)(w':FC):Prop:=(∃v,x=.returned v/\w'.ownsRow w.heap.size 5 1 v l.length (vs .u8 l))/\Below w.heap.size w w'
def Own.uy(h:Own w0 w rs ss)(cs:ai)(e:O4)(hc:cs.size<=maxLen)(hq:e<Ey:=by exact N8):Own w0 (w.alloc (.cells cs e)) rs ((.slice (some ⟨w.heap.size,0,none⟩) cs.size cs.size,e,cs.toList)::ss):=by
 refine h.fG ((Below.refl _ _).alloc (aX _) _) ?_ hq;refine⟨G5,.inr ⟨w.heap.size,cs.size,cs,G5,aX _,heap_alloc_new w _,G5,hc,G5,by rw[kQ];exact jC G5⟩⟩
def WJ:(Op.equal 22 (.slice none 0 0) (.slice none 0 0)).run prog w=.ok true w:=by
 have h:∀(P:O8)(d:Nat),P.underlying 22=some (.slice 5)->(Op.equalIn (d+1) 22 (.slice none 0 0) (.slice none 0 0)).run P w=.ok true w:=λP d h=>by simp[Op.equalIn,bL h]
 exact h prog 9999 underlying22
def Zo(ho:o.op=.binOp .eql 22 x y t')(hx:a.eval x=.slice none 0 0)(hy:a.eval y=.slice none 0 0):(execOp a.eval o).run prog w=.ok (.value (.bool true)) w:=by
 unfold execOp;simp[ho,hx,hy,eqGuard,binOp,WJ,Result.andThen]
def clone_any{v:NY}(l:ac)(hv:Src w v (vs .u8 l))(hl:l.length<=1048576):ak 99 #[v] w (OwnB w l):=by
 rcases hv with⟨rfl,h0⟩|⟨A,c,rfl,hc⟩
 .have hl0:l=[]:=by simpa[vs]using h0
  subst hl0;go_enter func99,ntmps99
  go_wp2_with(first
  |refine A8 rfl (Zo rfl rfl rfl) ?_)
  go_ret;exact⟨⟨_,rfl,oJ _ _ _ _⟩,Below.refl _ _⟩
 .obtain⟨i5,hE⟩:=Md;have HE:=aa hE;have HS:Hid (Src w (.slice (some A) (vs .u8 l).length c) (vs .u8 l)):=aa (.inr ⟨A,c,rfl,hc⟩);clear hc hE;go_enter func99,ntmps99;have hm:=Own.nil w
  go_wp2_with(first
  |refine A8 rfl (TF rfl rfl rfl) ?_
  |(have _t:=hm;have hm3:=hm.uy #[] 5 G5;refine QC 0 hm3 rfl rfl HE.o rfl rfl rfl (HS.o.below hm3.below) (Ic _ _) (by simp only[Ai,bW];omega) (by simp only[Ai,bW];omega) ?_;intro ad4 c4 w4 hm4;simp only[List.set,iY,bW,dA]at hm4;clear hm hm3))
  go_ret;have h:=hm4.get 0 rfl;refine⟨⟨_,rfl,?_⟩,hm4.below⟩;simpa[Ai]using h
def Lb{d:NY}(hr:AA w ga (AR d live peak)):ak 97 #[ga] w (RW w (.int .i64 peak)):=by
 go_enter func97,ntmps97
 go_wp2_with(first
 |refine A8 rfl (Aa (off:=2) rfl rfl hr DR L7) ?_)
 exact eA
def fh:Nat->Nat->OT->OT
|_,0,t=>t
|i,n+1,t=>.rd i (fh (i+1) n t)
def If{a:Nat}(n:Nat)(peak:Int)(hr:AA w ga (AR (.slice gd l.length l.length) live peak))(hd:AA w gd (B l))(h1:(a:Int)+n<=live)(h2:live<=l.length)(h3:l.length<=1048576)(h4:0<n):ak 115 #[ga,.agg (SP a n)] w (OwnB w (seg l a (a+n))):=by
 have CH:Hid (∀W,AA W ga (AR (.slice gd l.length l.length) live peak)->ak 64 #[ga,.agg (SP a n)] W (RB W (.bool true))):=λW h=>vZ h FP FP h1 FP;have HR:=aa hr.keep;have w1:IntKind.i64.wrap ((a:Int)+n)=((a+n:Nat):Int):=by rw[aZ _ FP];push_cast;rfl
 have c1:a<=a+n:=FP
 have c2:a+n<=l.length:=FP
 have HS:Hid (∀W,Below w.heap.size w W->Src W (.slice (D8 gd l.length a) (a+n-a) (l.length-a)) (vs .u8 (seg l a (a+n)))):=λW hb=>by
  rw[Le _ _ _ FP];refine Src.io (hd.keep W hb) a _ _ _ (by rw[Ai,QJ c2]) (λj u hj=>?_);have hlt:=(gI.1 hj).1;rw[Ai,QJ c2]at hlt;rw[Fg _ _ j (by rw[QJ c2];exact hlt),zS c2 hlt]at hj;rw[Zd l (a+j) FP];exact hj
 have CC:Hid (∀W v,Src W v (vs .u8 (seg l a (a+n)))->ak 99 #[v] W (OwnB W (seg l a (a+n)))):=λW v hv=>clone_any _ hv (by rw[QJ c2];omega);obtain⟨i5,hE⟩:=Md;have HE:=aa hE;clear hr hd h1 h2 h3 h4 hE;generalize seg l a (a+n)=S at*;generalize a+n=e at*;go_enter func115,ntmps115;have hm:=Own.nil w
 go_wp2_with(first
 |refine Ar hm rfl rfl rfl ?_;intro w1 g hm1;clear hm
 |refine Ag rfl rfl rfl (hm1.row 0 rfl) Eo ?_
 |(go_at_call 64;have _t:=hm1;refine(CH.o _ (HR.o _ hm1.below)).mono ?_;rintro x w2⟨rfl,hb2⟩;have hm2:=hm1.call hb2;clear hm1))
 refine IL (fh 0 12 (.one 12 (.rd 13 .done))) (λW=>Below w.heap.size w W/\AA W g (SP a n)/\AA W ga (AR (.slice gd l.length l.length) live peak)) rfl FZ rfl FZ (λ_ _ d _ _ h=>by cases d<;>exact h) ⟨(hm2.drawn (w2.drawn+1)).below,(hm2.drawn (w2.drawn+1)).row 0 rfl,HR.o _ (hm2.drawn (w2.drawn+1)).below⟩ ?_;have hn:=hm2.drawn (w2.drawn+1);generalize ({w2 with drawn:=w2.drawn+1}:FC)=wn at hn⊢;clear hm2;simp only[fh]
 repeat((first
 |refine EW rfl rfl (λW hW=>Aa (off:=0) rfl rfl hW.2.1 DR lw) ?_
 |refine EW rfl rfl (λW hW=>Aa (off:=1) rfl rfl hW.2.1 DR lN) ?_
 |refine EW rfl rfl (λW hW=>Aa (off:=0) rfl rfl hW.2.2 iO mK) ?_
 |refine EW rfl rfl (λW hW=>ew (l:=a) (h:=e) rfl HE.o rfl (.inr ⟨_,rfl⟩) (.inr ⟨_,rfl⟩) c1 c2) ?_
 |refine EW rfl rfl (λW hW=>by go_simp;rfl) ?_);(try simp only[Act.put,s3]))
 refine yh ?_;refine tO rfl rfl (λK hK=>?_);go_simp;refine(CC.o _ _ (HS.o _ hn.below)).mono ?_;rintro x v1⟨⟨r1,rfl,ho1⟩,hb1⟩;have k1:=hn.call hb1;have ho:=ownsRow_base ho1 hn.below.size;clear hn;refine hK _ _ ⟨_,λ_ h=>h,⟨k1.below,k1.row 0 rfl,HR.o _ k1.below⟩,?_⟩;clear hK K;refine EW rfl rfl (λW hW=>by go_simp;rfl) ?_;simp only[Act.put,s3];refine XI ?_;go_simp;go_wp2;go_ret;exact⟨⟨_,rfl,ho⟩,k1.below⟩
end
section
variable{a:OA}{ops:bl}{cs:ai}{Q:Exit->aJ}{peak:Int}{l:ac}{ss:O1}{c g ga gd h i k live m n off p:Nat}{o:Oz}{hi lo x y:O7}{A ad:Ov}{P:O8}{rs:ae}{e t ty:O4}{z:NY}{w w0:FC}{S:OE}
def J4:ai->Nat->ar->ai
|cs,_,[]=>cs
|cs,o,v::r=>J4 (cs.setIfInBounds o v) (o+1) r
def set_self{α:Type}(l:List α)(i:Nat)(x:α)(h:l[i]?=some x):l.set i x=l:=by
 apply lI;intro j;by_cases hj:i=j
 .subst hj;have:=(gI.1 h).1;rw[Dj this,h]
 .rw[Dv hj]
def Own.setCells{w0:FC}{ss:O1}{g:Nat}(i:Nat):∀(vs:ar)(o:Nat)(w:FC)(rs:ae)(cs:ai),Own w0 w rs ss->rs[i]?=some (g,cs)->Own w0 (w.setCells g o vs) (rs.set i (g,J4 cs o vs)) ss
|[],o,w,rs,cs,h,hi=>by rw[J4,set_self rs i _ hi];exact h
|v::vs,o,w,rs,cs,h,hi=>by
  have h1:=h.setCell i o v hi;have hl:=(gI.1 hi).1;have h2:=Own.setCells i vs (o+1) _ _ (cs.setIfInBounds o v) h1 (by rw[Dj hl]);rw[qG]at h2;exact h2
def zeroAt:ac->Nat->Nat->ac
|l,_,0=>l
|l,o,n+1=>zeroAt (l.set o 0) (o+1) n
def AD:∀(n o:Nat)(l:ac),J4 (B l) o (List.replicate n (.int .u8 0))=B (zeroAt l o n)
|0,_,_=>rfl
|n+1,o,l=>by rw[List.replicate_succ,J4,ky,AD n (o+1) (l.set o 0),zeroAt]
def yC:∀(n o:Nat)(l:ac),(zeroAt l o n).length=l.length
|0,_,_=>rfl
|n+1,o,l=>by rw[zeroAt,yC,cO]
def TQ:∀w,(zeroValue 5).run prog w=.ok (.int .u8 0) w:=λw=>by kernel_rfl
def WN(hm:Own w0 w rs ss)(ho:o.op=.call {callee:=.builtin .clear,args:=#[x],argTypes:=#[22]})(hx:a.eval x=.slice (some ⟨g,p,none⟩) n c)(hi:rs[i]?=some (g,B l))(h0:0<n)(hn:p+n<=l.length):
  ∃w',(execOp a.eval o).run prog w=.ok (.value (.tuple #[])) w'/\Own w0 w' (rs.set i (g,B (zeroAt l p n))) ss:=by
 have hr:=hm.row i hi;have hc:∀j,j<n->w.cell? ⟨g,p+j,none⟩=some (.int .u8 (gi l (p+j))):=λj hj=>by rw[hr.cell,Zd l _ FP]
 have hcl:=Lib.run_clear_slice (P:=prog) w 22 5 o.type (.int .u8 0) underlying22 TQ rfl rfl g p n c h0 (λj hj=>by rw[hc j hj];rfl) (λj _=>hr.free (p+j));refine⟨w.setCells g p (List.replicate n (.int .u8 0)),?_,?_⟩
 .unfold execOp;simp only[ho,resolve,invoke,builtin,aL,bw,aS,cM,bT,bZ,hx,hcl]
 .have h:=Own.setCells i (List.replicate n (.int .u8 0)) p w rs (B l) hm hi;rwa[AD]at h
def A5d{t:OT}(i:Nat)(hm:Own w0 w rs ss)(ho':ops.toList[k]?=some o)(hw:MZ o ops a)(ho:o.op=.call {callee:=.builtin .clear,args:=#[x],argTypes:=#[22]})(hx:a.eval x=.slice (some ⟨g,p,none⟩) n c)(hi:rs[i]?=some (g,B l))(h0:0<n)(hn:p+n<=l.length)
  (hS:∀w',Own w0 w' (rs.set i (g,B (zeroAt l p n))) ss->S w')(h:∀w',Own w0 w' (rs.set i (g,B (zeroAt l p n))) ss->fi prog ops Q t S (a.put o.dst (.tuple #[])) w'):lT prog ops Q k t S a w:=by
 obtain⟨w',hr,h2⟩:=WN hm ho hx hi h0 hn;exact Ym ho' hw hr (hS _ h2) (h _ h2)
def a0v(ht:P.underlying t=some (.slice e))(ty:O4)(a:Ov)(c:Nat)(w:FC):(Builtin.clear_ #[t] ty #[.slice a 0 c]).run P w=.ok (.tuple #[]) w:=by
 cases a<;>simp[Builtin.clear_,bL ht]
def Zp(ho:o.op=.call {callee:=.builtin .clear,args:=#[x],argTypes:=#[22]})(hx:a.eval x=.slice A 0 c):(execOp a.eval o).run prog w=.ok (.value (.tuple #[])) w:=by
 unfold execOp;simp only[ho,resolve,invoke,builtin,aL,bw,aS,cM,bT,bZ,hx,a0v underlying22]
def qp(w:FC):(zeroValue 50).run prog w=.ok (.agg (SP 0 0)) w:=FZ
def B7{d:NY}{l p n:Int}:(AR d l p).setIfInBounds 1 (.int .i64 n)=AR d n p:=rfl
def PC{d:NY}{l p n:Int}:(AR d l p).setIfInBounds 2 (.int .i64 n)=AR d l n:=rfl
def imax(a b:Int):Int:=if a<b then b else a
def Y3{i:Oy}{bytes:Nat}(ho:o.op=.slice t x (some lo) (some hi) none)(he:Gv P t e i z bytes){l:Nat}(hx:a.eval x=.slice g n c)(hl:a.eval lo=.int .i64 l)(hh:a.eval hi=.int .i64 h)(hm:h=l+m)(h1:l<c)(h2:l+m<=c):
  (execOp a.eval o).run P w=.ok (.value (.slice (some ⟨g,l,none⟩) m (c-l))) w:=by
 have h:=ew (P:=P) (w:=w) (l:=l) (h:=h) ho he hx (.inr ⟨.i64,by simp[hl]⟩) (.inr ⟨.i64,by simp[hh]⟩) FP FP;rw[h,Le _ _ _ h1,hm,show l+m-l=m by omega]
def a0c{i:Oy}{bytes:Nat}(ho:o.op=.slice t x (some lo) (some hi) none)(he:Gv P t e i z bytes){l:Nat}(hx:a.eval x=.slice ad n c)(hl:a.eval lo=.int .i64 l)(hh:a.eval hi=.int .i64 h)(hm:h=l)(h2:l<=c):
  (execOp a.eval o).run P w=.ok (.value (.slice (D8 ad c l) 0 (c-l))) w:=by
 have h:=ew (P:=P) (w:=w) (l:=l) (h:=h) ho he hx (.inr ⟨.i64,by simp[hl]⟩) (.inr ⟨.i64,by simp[hh]⟩) FP FP;rw[h,hm,iV]
def Oe(hm:Own w0 w rs ss)(ho:o.op=.store ty x y)(hx:a.eval x=.pointer (some ⟨g,off,none⟩)){v:NY}(hy:a.eval y=v)(hi:rs[i]?=some (g,cs))(ht:ET P ty)(hf:off<cs.size)(hc:v.cells=#[v])(h1:v.oneCell'=true):
  (execOp a.eval o).run P w=.ok .skip (w.setCell ⟨g,off,none⟩ v):=by
 have hr:=hm.row i hi;have hcell:w.cell? ⟨g,off,none⟩=some cs[off]:=by rw[hr.cell];simp[hf]
 have hst:(store ⟨g,off,none⟩ v).run P w=.ok () (w.setCell ⟨g,off,none⟩ v):=by
  rw[run_store P w _ v _ h1,hcell];simp[hr.free off]
 cases hq:P.info? ty with
|none=>have:=ht.2;simp[hq]at this
|some i=>
  exact EQ
def a1A{t:OT}(i:Nat)(hm:Own w0 w rs ss)(ho':ops.toList[k]?=some o)(hw:MZ o ops a)(ho:o.op=.store ty x y)(hx:a.eval x=.pointer (some ⟨g,off,none⟩)){v:NY}(hy:a.eval y=v)(hi:rs[i]?=some (g,cs))(ht:ET P ty)(hf:off<cs.size)(hc:v.cells=#[v])(h1:v.oneCell'=true)
  (hS:∀w',Own w0 w' (rs.set i (g,cs.setIfInBounds off v)) ss->S w')(h:∀w',Own w0 w' (rs.set i (g,cs.setIfInBounds off v)) ss->fi P ops Q t S (a.put o.dst undef) w'):lT P ops Q k t S a w:=
 T6 ho' hw (Oe hm ho hx hy hi ht hf hc h1) (hS _ (hm.setCell i off v hi)) (h _ (hm.setCell i off v hi))
def Tz(hm:Own w0 w ((ga,AR (.slice gd l.length l.length) live peak)::(gd,B l)::rs) ss)(h2:live+n<=l.length)(h3:l.length<=1048576)(h4:0<n):ak 23 #[ga,.int .i64 n] w (RO (.tuple #[.agg (SP live n),.int .i64 0]) w0 ((ga,AR (.slice gd l.length l.length) ((live+n:Nat):Int) (imax peak ((live+n:Nat):Int)))::(gd,B (zeroAt l live n))::rs) ss):=by
 have q1:decide ((n:Int)<0)=false:=an;have q2:decide ((l.length:Int)-live<n)=false:=an;have w1:IntKind.i64.wrap ((l.length:Int)-live)=(l.length:Int)-live:=av;have w2:IntKind.i64.wrap ((live:Int)+n)=((live+n:Nat):Int):=by rw[aZ _ FP];push_cast;rfl
 have c1:live<=live+n:=FP
 have c3:live<l.length:=FP
 have H2:=aa h2;obtain⟨e,hee⟩:∃e,e=live+n:=⟨_,rfl⟩;rw[<-hee]at w2 c1⊢;have HEE:=aa hee;clear hee h2;obtain⟨i5,hE⟩:=Md;have HE:=aa hE;clear hE;go_enter func23,ntmps23
 go_wp2_with(first
 |refine AL hm rfl rfl qp ?_;intro w3 g hm1;clear hm)
 refine IL (fh 0 13 .done) (λW=>AA W ga (AR (.slice gd l.length l.length) live peak)) rfl FZ rfl FZ (λ_ _ d _ _ h=>by cases d<;>exact h) ((hm1.drawn (w3.drawn+1)).row 1 rfl) ?_;have hn:=hm1.drawn (w3.drawn+1);generalize ({w3 with drawn:=w3.drawn+1}:FC)=wn at hn⊢;clear hm1;simp only[fh]
 repeat((first
 |refine EW rfl rfl (λW hW=>Aa (off:=0) rfl rfl hW iO mK) ?_
 |refine EW rfl rfl (λW hW=>Aa (off:=1) rfl rfl hW DR lE) ?_
 |refine EW rfl rfl (λW hW=>by go_simp;rfl) ?_);(try simp only[Act.put,s3]))
 refine XI ?_;go_simp
 go_upto_region 6 with(first
 |refine A8 rfl (Aa (off:=1) rfl rfl (hn.row 1 rfl) DR lE) ?_
 |refine AL hn rfl rfl qp ?_;intro w4 g6 hm4;clear hn
 |refine AY (vs:=SP live n) 0 hm4 rfl rfl rfl rfl rfl Eo rfl yw ?_;intro w5 hm5;simp only[List.set]at hm5;clear hm4)
 refine IL (fh 0 11 (.one 11 .done)) (λW=>AA W g6 (SP live n)/\AA W ga (AR (.slice gd l.length l.length) live peak)) rfl FZ rfl FZ (λ_ _ d _ _ h=>by cases d<;>exact h) ⟨(hm5.drawn (w5.drawn+1)).row 0 rfl,(hm5.drawn (w5.drawn+1)).row 2 rfl⟩ ?_;have k1:=hm5.drawn (w5.drawn+1);generalize ({w5 with drawn:=w5.drawn+1}:FC)=wn2 at k1⊢;clear hm5;simp only[fh]
 repeat((first
 |refine EW rfl rfl (λW hW=>Aa (off:=0) rfl rfl hW.2 iO mK) ?_
 |refine EW rfl rfl (λW hW=>Aa (off:=0) rfl rfl hW.1 DR lw) ?_
 |refine EW rfl rfl (λW hW=>Y3 (l:=live) (h:=e) (m:=n) rfl HE.o rfl rfl rfl HEE.o c3 H2.o) ?_
 |refine EW rfl rfl (λW hW=>by go_simp;rfl) ?_);(try simp only[Act.put,s3]))
 refine yh ?_;refine A5d 3 k1 rfl rfl rfl rfl rfl h4 H2.o (λw6 k2=>⟨k2.row 0 rfl,k2.row 2 rfl⟩) (λw6 k2=>?_);simp only[List.set]at k2;clear k1
 try simp only[Act.put]
 refine XI ?_;go_simp
 go_upto_region 8 with(first
 |refine A8 rfl (Aa (off:=1) rfl rfl (k2.row 2 rfl) DR lE) ?_
 |refine BL (off:=1) (v:=.int .i64 (e:Int)) 2 k2 rfl rfl rfl rfl rfl DR (by show 1<3;decide) rfl rfl B7 ?_;intro w7 hm7;simp only[List.set]at hm7;clear k2)
 exact Ao
def take_zero(n:Nat)(hm:Own w0 w ((ga,AR (.slice gd l.length l.length) live peak)::(gd,B l)::rs) ss)(h2:live+n<=l.length)(h3:l.length<=1048576)(h4:n=0):ak 23 #[ga,.int .i64 n] w (RO (.tuple #[.agg (SP live n),.int .i64 0]) w0 ((ga,AR (.slice gd l.length l.length) ((live+n:Nat):Int) (imax peak ((live+n:Nat):Int)))::(gd,B l)::rs) ss):=by
 have q1:decide ((n:Int)<0)=false:=an;have q2:decide ((l.length:Int)-live<n)=false:=an;have w1:IntKind.i64.wrap ((l.length:Int)-live)=(l.length:Int)-live:=av;have w2:IntKind.i64.wrap ((live:Int)+n)=((live+n:Nat):Int):=by rw[aZ _ FP];push_cast;rfl
 have c1:live<=live+n:=FP
 have H2:=aa h2;obtain⟨e,hee⟩:∃e,e=live+n:=⟨_,rfl⟩;rw[<-hee]at w2 c1⊢;have HEE:=aa hee;have HLE:Hid (live<=l.length):=aa FP;have HZ:Hid (e=live):=aa FP;clear h4;clear hee h2;obtain⟨i5,hE⟩:=Md;have HE:=aa hE;clear hE;go_enter func23,ntmps23
 go_wp2_with(first
 |refine AL hm rfl rfl qp ?_;intro w3 g hm1;clear hm)
 refine IL (fh 0 13 .done) (λW=>AA W ga (AR (.slice gd l.length l.length) live peak)) rfl FZ rfl FZ (λ_ _ d _ _ h=>by cases d<;>exact h) ((hm1.drawn (w3.drawn+1)).row 1 rfl) ?_;have hn:=hm1.drawn (w3.drawn+1);generalize ({w3 with drawn:=w3.drawn+1}:FC)=wn at hn⊢;clear hm1;simp only[fh]
 repeat((first
 |refine EW rfl rfl (λW hW=>Aa (off:=0) rfl rfl hW iO mK) ?_
 |refine EW rfl rfl (λW hW=>Aa (off:=1) rfl rfl hW DR lE) ?_
 |refine EW rfl rfl (λW hW=>by go_simp;rfl) ?_);(try simp only[Act.put,s3]))
 refine XI ?_;go_simp
 go_upto_region 6 with(first
 |refine A8 rfl (Aa (off:=1) rfl rfl (hn.row 1 rfl) DR lE) ?_
 |refine AL hn rfl rfl qp ?_;intro w4 g6 hm4;clear hn
 |refine AY (vs:=SP live n) 0 hm4 rfl rfl rfl rfl rfl Eo rfl yw ?_;intro w5 hm5;simp only[List.set]at hm5;clear hm4)
 refine IL (fh 0 11 (.one 11 .done)) (λW=>AA W g6 (SP live n)/\AA W ga (AR (.slice gd l.length l.length) live peak)) rfl FZ rfl FZ (λ_ _ d _ _ h=>by cases d<;>exact h) ⟨(hm5.drawn (w5.drawn+1)).row 0 rfl,(hm5.drawn (w5.drawn+1)).row 2 rfl⟩ ?_;have k1:=hm5.drawn (w5.drawn+1);generalize ({w5 with drawn:=w5.drawn+1}:FC)=wn2 at k1⊢;clear hm5;simp only[fh]
 repeat((first
 |refine EW rfl rfl (λW hW=>Aa (off:=0) rfl rfl hW.2 iO mK) ?_
 |refine EW rfl rfl (λW hW=>Aa (off:=0) rfl rfl hW.1 DR lw) ?_
 |refine EW rfl rfl (λW hW=>a0c (l:=live) (h:=e) rfl HE.o rfl rfl rfl HZ.o HLE.o) ?_
 |refine EW rfl rfl (λW hW=>by go_simp;rfl) ?_);(try simp only[Act.put,s3]))
 refine yh ?_;refine Ym rfl rfl (Zp rfl rfl) ⟨k1.row 0 rfl,k1.row 2 rfl⟩ ?_;have k2:=k1;clear k1
 try simp only[Act.put]
 refine XI ?_;go_simp
 go_upto_region 8 with(first
 |refine A8 rfl (Aa (off:=1) rfl rfl (k2.row 2 rfl) DR lE) ?_
 |refine BL (off:=1) (v:=.int .i64 (e:Int)) 2 k2 rfl rfl rfl rfl rfl DR (by show 1<3;decide) rfl rfl B7 ?_;intro w7 hm7;simp only[List.set]at hm7;clear k2)
 exact Ao
end
section
variable{cs ns:ai}{news xs:ar}{g k n off t:Nat}{r:O9}{x y:O7}{e ty:O4}{i q:Oy}{sv z:NY}
def AS:b9:=[3,4,5,9,22,25,46,68,70,72,97,102,104,124,211,232,239,276,304,311,361]
def ot(h:AS.contains t=true):ET prog t:=by
 simp only[AS,List.contains_cons,zU,qV,iI,Bool.or_false]at h;rcases h with rfl|rfl|rfl|rfl|rfl|rfl|rfl|rfl|rfl|rfl|rfl|rfl|rfl|rfl|rfl|rfl|rfl|rfl|rfl|rfl|rfl
 all_goals exact⟨λw=>FZ,FZ⟩
def Nx:List (Nat×Nat):=[(50,2),(74,3),(76,7),(80,1),(86,2),(88,7),(106,15),(110,3),(114,9),(115,256),(121,266),(132,4),(134,1),(137,4),(139,258),(141,262),(143,260),(145,256),(147,260),(149,795),(172,9),(184,257),(199,3),(219,256),(227,258),(241,2),(268,257),(281,2),(283,2),(287,258),(290,4),(296,16),(309,3),(313,6)]
def ag(h:Nx.contains (t,n)=true):Aq prog t n:=by
 simp only[Nx,List.contains_cons,zU,qV,iI,Bool.or_false,oz]at h;rcases h with⟨rfl,rfl⟩|⟨rfl,rfl⟩|⟨rfl,rfl⟩|⟨rfl,rfl⟩|⟨rfl,rfl⟩|⟨rfl,rfl⟩|⟨rfl,rfl⟩|⟨rfl,rfl⟩|⟨rfl,rfl⟩|⟨rfl,rfl⟩|⟨rfl,rfl⟩|⟨rfl,rfl⟩|⟨rfl,rfl⟩|⟨rfl,rfl⟩|⟨rfl,rfl⟩|⟨rfl,rfl⟩|⟨rfl,rfl⟩|⟨rfl,rfl⟩|⟨rfl,rfl⟩|⟨rfl,rfl⟩|⟨rfl,rfl⟩|⟨rfl,rfl⟩|⟨rfl,rfl⟩|⟨rfl,rfl⟩|⟨rfl,rfl⟩|⟨rfl,rfl⟩|⟨rfl,rfl⟩|⟨rfl,rfl⟩|⟨rfl,rfl⟩|⟨rfl,rfl⟩|⟨rfl,rfl⟩|⟨rfl,rfl⟩|⟨rfl,rfl⟩|⟨rfl,rfl⟩
 .exact Aq.mk' underlying50 rfl FZ
 .exact Aq.mk' underlying74 rfl FZ
 .exact Aq.mk' underlying76 rfl FZ
 .exact Aq.mk' underlying80 rfl FZ
 .exact Aq.mk' underlying86 rfl FZ
 .exact Aq.mk' underlying88 rfl FZ
 .exact Aq.mk' underlying106 rfl FZ
 .exact Aq.mk' underlying110 rfl FZ
 .exact Aq.mk' underlying114 rfl FZ
 .exact Aq.mk' underlying115 rfl FZ
 .exact Aq.mk' underlying121 rfl FZ
 .exact Aq.mk' underlying132 rfl FZ
 .exact Aq.mk' underlying134 rfl FZ
 .exact Aq.mk' underlying137 rfl FZ
 .exact Aq.mk' underlying139 rfl FZ
 .exact Aq.mk' underlying141 rfl FZ
 .exact Aq.mk' underlying143 rfl FZ
 .exact Aq.mk' underlying145 rfl FZ
 .exact Aq.mk' underlying147 rfl FZ
 .exact Aq.mk' underlying149 rfl FZ
 .exact Aq.mk' underlying172 rfl FZ
 .exact Aq.mk' underlying184 rfl FZ
 .exact Aq.mk' underlying199 rfl FZ
 .exact Aq.mk' underlying219 rfl FZ
 .exact Aq.mk' underlying227 rfl FZ
 .exact Aq.mk' underlying241 rfl FZ
 .exact Aq.mk' underlying268 rfl FZ
 .exact Aq.mk' underlying281 rfl FZ
 .exact Aq.mk' underlying283 rfl FZ
 .exact Aq.mk' underlying287 rfl FZ
 .exact Aq.mk' underlying290 rfl FZ
 .exact Aq.mk' underlying296 rfl FZ
 .exact Aq.mk' underlying309 rfl FZ
 .exact Aq.mk' underlying313 rfl FZ
def nf(w:FC):(zeroValue 50).run prog w=.ok (.agg #[.int .i64 0,.int .i64 0]) w:=FZ
def YP(w:FC):(zeroValue 74).run prog w=.ok (.agg #[.int .i64 0,.int .i64 0,.int .u32 0]) w:=FZ
def S6(w:FC):(zeroValue 76).run prog w=.ok (.agg #[.int .u8 0,.int .i64 0,.int .i64 0,.int .i64 0,.int .u32 0,.slice none 0 0,.int .i64 0]) w:=FZ
def Vj(w:FC):(zeroValue 80).run prog w=.ok (.agg #[.int .i64 0]) w:=FZ
def Ja(w:FC):(zeroValue 86).run prog w=.ok (.agg #[.int .i64 0,.int .i64 0]) w:=FZ
def VY(w:FC):(zeroValue 88).run prog w=.ok (.agg #[.int .i64 0,.int .i64 0,.int .i64 0,.int .i64 0,.int .i64 0,.int .u32 0,.int .i64 0]) w:=FZ
def YG(w:FC):(zeroValue 106).run prog w=.ok (.agg #[.int .i64 0,.int .u8 0,.pointer none,.pointer none,.pointer none,.slice none 0 0,.int .i64 0,.int .i64 0,.int .u32 0,.int .i64 0,.nilIface,.int .i64 0,.int .i64 0,.int .u32 0,.int .i64 0]) w:=FZ
def Uw(w:FC):(zeroValue 110).run prog w=.ok (.agg #[.slice none 0 0,.int .i64 0,.int .i64 0]) w:=FZ
def Wf(w:FC):(zeroValue 114).run prog w=.ok (.agg #[.pointer none,.int .i64 0,.int .i64 0,.int .i64 0,.int .i64 0,.int .i64 0,.int .i64 0,.int .i64 0,.int .i64 0]) w:=FZ
def XA(w:FC):(zeroValue 132).run prog w=.ok (.agg #[.slice none 0 0,.int .i64 0,.int .i64 0,.bool false]) w:=FZ
def UA(w:FC):(zeroValue 134).run prog w=.ok (.agg #[.int .i64 0]) w:=FZ
def Sv(w:FC):(zeroValue 137).run prog w=.ok (.agg #[.int .i64 0,.int .i64 0,.int .i64 0,.int .i64 0]) w:=FZ
def R8(w:FC):(zeroValue 172).run prog w=.ok (.agg #[.int .i64 0,.int .i64 0,.int .u8 0,.pointer none,.slice none 0 0,.int .u32 0,.int .u32 0,.bool false,.bool false]) w:=FZ
def Su(w:FC):(zeroValue 199).run prog w=.ok (.agg #[.int .u8 0,.int .u8 0,.int .u8 0]) w:=FZ
def ry(w:FC):(zeroValue 241).run prog w=.ok (.agg #[.int .i64 0,.int .i64 0]) w:=FZ
def tj(w:FC):(zeroValue 281).run prog w=.ok (.agg #[.int .i64 0,.bool false]) w:=FZ
def Zu(w:FC):(zeroValue 283).run prog w=.ok (.agg #[.slice none 0 0,.int .i64 0]) w:=FZ
def a0H(w:FC):(zeroValue 290).run prog w=.ok (.agg #[.int .u8 0,.int .u8 0,.int .u8 0,.int .u8 0]) w:=FZ
def a12(w:FC):(zeroValue 296).run prog w=.ok (.agg #[.int .i64 0,.int .i64 0,.int .i64 0,.int .i64 0,.int .i64 0,.int .i64 0,.int .i64 0,.int .i64 0,.int .i64 0,.int .i64 0,.int .i64 0,.int .i64 0,.int .i64 0,.int .i64 0,.int .i64 0,.int .i64 0]) w:=FZ
def WF(w:FC):(zeroValue 309).run prog w=.ok (.agg #[.pointer none,.int .i64 0,.int .i64 0]) w:=FZ
def VX(w:FC):(zeroValue 313).run prog w=.ok (.agg #[.pointer none,.int .i64 0,.int .i64 0,.int .i64 0,.int .i64 0,.int .i64 0]) w:=FZ
def Dp{cs:ar}(h:cs.all Value.oneCell'=true):∀v∈cs.toArray,v.oneCell'=true:=λv hv=>iP.1 h v (by simpa using hv)
def MV{α:Type}:∀(l:List α)(i:Nat)(x:α),l[i]?=some x->(x::l.eraseIdx i).Perm l
|[],_,_,h=>by simp at h
|a::l,0,x,h=>by simp at h;subst h;exact List.Perm.refl _
|a::l,i+1,x,h=>by
  simp only[l7]at h;simp only[List.eraseIdx_cons_succ];exact(fM a x _).trans ((MV l i x h).cons a)
def Own.front{w0 w:FC}{rs:ae}{ss:O1}(i:Nat)(h:Own w0 w rs ss)(hi:rs[i]?=some r):Own w0 w (r::rs.eraseIdx i) ss:=by
 have hp:=MV rs i r hi;exact⟨⟨h.mem.below,λp hp'=>h.mem.own p (hp.mem_iff.1 hp'),λp hp'=>h.mem.rows p (hp.mem_iff.1 hp'),(hp.map _).nodup_iff.2 h.mem.apart⟩,h.sl,((hp.map Prod.fst).append_left _).nodup_iff.2 h.apart⟩
section
variable{P:O8}{w0 w:FC}{rs:ae}{ss:O1}{o:Oz}{a:OA}{K:Value->FC->Prop}
def Ac{v:NY}(h:a.tmps.toList[k]?=some v):a.eval (.tmp k)=v:=by
 have h':a.tmps[k]?=some v:=by rw[<-cE];exact h
 simp[Act.eval,h']
def Dl(hm:Own w0 w rs ss)(ho:o.op=.alloc ty)(hz:∀w,(zeroValue ty).run P w=.ok (.agg cs) w)
  (h:∀w' g,Own w0 w' ((g,cs)::rs) ss->K (.pointer (some ⟨g,0,none⟩)) w'):Eff P o a w K:=Eff.val (a1I ho hz) (h _ _ (hm.alloc cs ty))
def xD(hm:Own w0 w rs ss)(ho:o.op=.box ty x)(hx:a.eval x=.agg cs)
  (h:∀w' g,Own w0 w' ((g,cs)::rs) ss->K (.pointer (some ⟨g,0,none⟩)) w'):Eff P o a w K:=by
 refine Eff.val (v:=.pointer (some ⟨w.heap.size,0,none⟩)) (w':=w.alloc (.cells cs ty)) ?_ (h _ _ (hm.alloc cs ty));unfold execOp;simp only[ho,hx,Instr.box,aL,bw];rfl
def Aw(i:Nat)(hm:Own w0 w rs ss)(ho:o.op=.store ty x y)(hx:a.eval x=.pointer g){vs:ai}(hy:a.eval y=.agg vs)
  (hi:rs[i]?=some (g,cs))(ht:Aq P ty vs.size)(hs:vs.size=cs.size)(h1:∀v∈vs,v.oneCell'=true)
  (h:∀w',Own w0 w' (rs.set i (g,vs)) ss->K undef w'):Eff P o a w K:=by
 have hrun:=Gn (P:=P) (off:=0) ho hx hy (hm.row i hi) ht rfl FP h1;rw[pY cs vs hs]at hrun;exact Eff.skip hrun (h _ (hm.setRow i vs hi))
def Aj(i:Nat)(hm:Own w0 w rs ss)(ho:o.op=.store ty x y)(hx:a.eval x=.pointer (some ⟨g,off,none⟩)){vs:ai}(hy:a.eval y=.agg vs)
  (hi:rs[i]?=some (g,cs))(ht:Aq P ty vs.size)(hf:off+vs.size<=cs.size)(h1:∀v∈vs,v.oneCell'=true)(hn:splice cs off vs=ns)
  (h:∀w',Own w0 w' (rs.set i (g,ns)) ss->K undef w'):Eff P o a w K:=by
 have hrun:=Gn (P:=P) (off:=off) ho hx hy (hm.row i hi) ht rfl hf h1;rw[hn]at hrun;exact Eff.skip hrun (h _ (hm.setRow i ns hi))
def AZ(i:Nat)(hm:Own w0 w rs ss)(ho:o.op=.store ty x y)(hx:a.eval x=.pointer (some ⟨g,off,none⟩)){v:NY}(hy:a.eval y=v) 
  (hi:rs[i]?=some (g,cs))(ht:ET P ty)(hf:off<cs.size)(hc:v.cells=#[v])(h1:v.oneCell'=true)(hn:cs.setIfInBounds off v=ns)
  (h:∀w',Own w0 w' (rs.set i (g,ns)) ss->K undef w'):Eff P o a w K:=by
 have hh:=hm.setCell i off v hi;rw[hn]at hh;exact Eff.skip (Oe hm ho hx hy hi ht hf hc h1) (h _ hh)
def JQ(hm:Own w0 w rs ss){bytes:Nat}(ho:o.op=.buildSlice ty 1 #[(0,x)])(he:Gv P ty e q z bytes){v:NY}(hx:a.eval x=v)(hv:v.cells=#[v])
  (h:∀w' g,Own w0 w' ((g,#[v])::rs) ss->K (.slice (some ⟨g,0,none⟩) 1 1) w'):Eff P o a w K:=
 Eff.val (Qo ho he hx hv) (h _ _ (hm.alloc #[v] e))
def Yy(j:Nat)(hm:Own w0 w rs ss){t:O4}{bytes:Nat}(ho:o.op=.call {callee:=.builtin .append,args:=#[x,y],argTypes:=#[t,t]})(he:Gv P t e i z bytes)
  {v:NY}(hx:a.eval x=v)(hj:ss[j]?=some (v,e,xs))(hn:xs.length=n)(hy:a.eval y=sv)(hs:Src w sv news)(h1:∀u∈news,u.oneCell'=true)(h63:n+news.length<=maxLen)(hbytes:(n+news.length)*bytes<=140737488355328)
  (h:∀ad c w',Own w0 w' rs (ss.set j (.slice ad (n+news.length) c,e,xs++news))->K (.slice ad (n+news.length) c) w')(hq:e<Ey:=by exact N8):Eff P o a w K:=by
 subst hn;obtain⟨ad,c,w',hr,ho2,hg,hb⟩:=Rx he (ty:=o.type) (hm.get j hj) hs h1 h63 hbytes hm.below.size;refine Eff.val (v:=.slice ad (xs.length+news.length) c) (w':=w') ?_ (h _ _ _ (hm.Fi j hj (by simpa using ho2) hg hb));exact tp
end
section
variable{P:O8}{w0 w:FC}{rs:ae}{ss:O1}{o:Oz}{a:OA}
def ld(i:Nat)(hm:Own w0 w rs ss)(ho:o.op=.load ty x)(hx:a.eval x=.pointer (some ⟨g,off,none⟩)){v:NY}(hi:rs[i]?=some (g,cs))
  (ht:ET P ty)(hv:cs[off]?=some v):(execOp a.eval o).run P w=.ok (.value v) w:=Aa ho hx (hm.row i hi) ht hv
def eK(i:Nat)(hm:Own w0 w rs ss)(ho:o.op=.load ty x)(hx:a.eval x=.pointer g)(hi:rs[i]?=some (g,cs))(ht:Aq P ty cs.size):
  (execOp a.eval o).run P w=.ok (.value (.agg cs)) w:=Du ho hx (hm.row i hi) ht
def cg(i:Nat)(hm:Own w0 w rs ss)(ho:o.op=.load ty x)(hx:a.eval x=.pointer (some ⟨g,off,none⟩)){vs:ai}(hi:rs[i]?=some (g,cs))(hv:cs.extract off (off+vs.size)=vs)(ht:Aq P ty vs.size)(hf:off+vs.size<=cs.size):
  (execOp a.eval o).run P w=.ok (.value (.agg vs)) w:=by
 have h:=Gp (P:=P) (off:=off) ho hx (hm.row i hi) ht hf;rwa[hv]at h
end
end
open Go Go.RowKit
section
variable{x y z:O7}{hi lo rv:Option Operand}{t u:O4}
section
variable{P:O8}{ops:bl}{Q:Exit->aJ}{rest:bt}{a:OA}{w:FC}{dst:Option Tmp}{ty:O4}{pos:String}{af:Ot}{g:Oq}
def bh(h:wpList P ops Q (⟨dst,.load t x,ty,pos,af,g⟩::rest) a w):wpList P ops Q (⟨dst,.load t x,ty,pos,af,g⟩::rest) a w:=h
def bE(h:wpList P ops Q (⟨dst,.store t x y,ty,pos,af,g⟩::rest) a w):wpList P ops Q (⟨dst,.store t x y,ty,pos,af,g⟩::rest) a w:=h
def na(h:wpList P ops Q (⟨dst,.alloc t,ty,pos,af,g⟩::rest) a w):wpList P ops Q (⟨dst,.alloc t,ty,pos,af,g⟩::rest) a w:=h
def gBx(h:wpList P ops Q (⟨dst,.box t x,ty,pos,af,g⟩::rest) a w):wpList P ops Q (⟨dst,.box t x,ty,pos,af,g⟩::rest) a w:=h
def cS{ps:Array (Nat×Operand)}(h:wpList P ops Q (⟨dst,.build t ps,ty,pos,af,g⟩::rest) a w):wpList P ops Q (⟨dst,.build t ps,ty,pos,af,g⟩::rest) a w:=h
def pN(h:wpList P ops Q (⟨dst,.insert t x y z,ty,pos,af,g⟩::rest) a w):wpList P ops Q (⟨dst,.insert t x y z,ty,pos,af,g⟩::rest) a w:=h
def pV(h:wpList P ops Q (⟨dst,.makeMap t rv,ty,pos,af,g⟩::rest) a w):wpList P ops Q (⟨dst,.makeMap t rv,ty,pos,af,g⟩::rest) a w:=h
def tk(h:wpList P ops Q (⟨dst,.makeSlice t x y,ty,pos,af,g⟩::rest) a w):wpList P ops Q (⟨dst,.makeSlice t x y,ty,pos,af,g⟩::rest) a w:=h
def t7{mx:Option Operand}(h:wpList P ops Q (⟨dst,.slice t x lo hi mx,ty,pos,af,g⟩::rest) a w):wpList P ops Q (⟨dst,.slice t x lo hi mx,ty,pos,af,g⟩::rest) a w:=h
def cA(h:wpList P ops Q (⟨dst,.indexAddr t x y,ty,pos,af,g⟩::rest) a w):wpList P ops Q (⟨dst,.indexAddr t x y,ty,pos,af,g⟩::rest) a w:=h
def qS(h:wpList P ops Q (⟨dst,.index t x y,ty,pos,af,g⟩::rest) a w):wpList P ops Q (⟨dst,.index t x y,ty,pos,af,g⟩::rest) a w:=h
def gk{ok:Bool}(h:wpList P ops Q (⟨dst,.lookup t x y ok,ty,pos,af,g⟩::rest) a w):wpList P ops Q (⟨dst,.lookup t x y ok,ty,pos,af,g⟩::rest) a w:=h
def jz{b:BinOp}(h:wpList P ops Q (⟨dst,.binOp b t x y u,ty,pos,af,g⟩::rest) a w):wpList P ops Q (⟨dst,.binOp b t x y u,ty,pos,af,g⟩::rest) a w:=h
end
end
section
variable{cs:ai}{g i off:Nat}{x y:O7}{ty:O4}{u0:NY}
def a0z{vs:ar}(h:∀j u,vs[j]?=some u->cs[off+j]?=some u)(h0:vs≠[]):cs.extract off (off+vs.length)=vs.toArray/\off+vs.length<=cs.size:=by
 have hf:off+vs.length<=cs.size:=by
  have hl:0<vs.length:=List.length_pos_iff.2 h0;have:=h (vs.length-1) vs[vs.length-1] (fe FP);have:=(ji.1 this).1;omega
 refine⟨?_,hf⟩;apply uf
 .simp;omega
 .intro i h1 h2;have hi:i<vs.length:=by simpa using h2
  have:=h i vs[i] (fe hi);obtain⟨q,hq⟩:=ji.1 this;simp[hq]
section
variable{P:O8}{w0 w:FC}{rs:ae}{ss:O1}{o:Oz}{a:OA}
def B9(hm:Own w0 w rs ss)(ho:o.op=.load ty x)(hx:a.eval x=.pointer (some ⟨g,off,none⟩))(vs:ar)(hi:rs[i]?=some (g,cs))(h:∀j u,vs[j]?=some u->cs[off+j]?=some u)(h0:vs≠[])(ht:Aq P ty vs.length):
  (execOp a.eval o).run P w=.ok (.value (.agg vs.toArray)) w:=by
 obtain⟨h1,h2⟩:=a0z h h0;have:=Gp (P:=P) (off:=off) ho hx (hm.row i hi) ht h2;rwa[h1]at this
def jb(i:Nat)(hm:Own w0 w rs ss)(ho:o.op=.load ty x)(hx:a.eval x=.pointer (some ⟨g,off,none⟩)){u1:NY}(hi:rs[i]?=some (g,cs))(ht:Aq P ty 2)(h0:cs[off]?=some u0)(h1:cs[off+1]?=some u1):
  (execOp a.eval o).run P w=.ok (.value (.agg #[u0,u1])) w:=
 B9 hm ho hx [u0,u1] hi (λj u hj=>by
  match j,hj with
 |0,hj=>simp at hj;subst hj;exact h0
 |1,hj=>simp at hj;subst hj;exact h1) G5 ht
def ld3(hm:Own w0 w rs ss)(ho:o.op=.load ty x)(hx:a.eval x=.pointer (some ⟨g,off,none⟩)){u1 u2:NY}(hi:rs[i]?=some (g,cs))(ht:Aq P ty 3)(h0:cs[off]?=some u0)(h1:cs[off+1]?=some u1)(h2:cs[off+2]?=some u2):
  (execOp a.eval o).run P w=.ok (.value (.agg #[u0,u1,u2])) w:=
 B9 hm ho hx [u0,u1,u2] hi (λj u hj=>by
  match j,hj with
 |0,hj=>simp at hj;subst hj;exact h0
 |1,hj=>simp at hj;subst hj;exact h1
 |2,hj=>simp at hj;subst hj;exact h2) G5 ht
end
def puts(cs:ai):Nat->ar->ai
|_,[]=>cs
|o,v::r=>puts (cs.setIfInBounds o v) (o+1) r
def Ni:∀(vs:ar)(cs:ai)(o i:Nat),(puts cs o vs)[i]?=if i<cs.size/\o<=i/\i<o+vs.length then vs[i-o]?else cs[i]?
|[],cs,o,i=>by rw[puts,aP (by rw[bW];omega)]
|v::vs,cs,o,i=>by
  rw[puts,Ni vs];simp only[zF,bD];by_cases h1:i<cs.size/\o+1<=i/\i<o+1+vs.length
  .exact N1
  .rw[aP h1];by_cases h2:i=o
   .subst h2;by_cases h3:i<cs.size
    .rw[aQ FP,iV,Fa,zT h3]
    .rw[aP FP,Array.getElem?_setIfInBounds];simp[h3,ug (tV h3)]
   .rw[aP FP,tq FP]
def Qg(cs:ai)(o:Nat)(vs:ar)(h:o+vs.length<=cs.size):splice cs o vs.toArray=puts cs o vs:=by
 apply Array.ext_getElem?;intro i;rw[Ni,splice];simp only[jI,gX];by_cases h1:i<cs.size/\o<=i/\i<o+vs.length
 .rw[aQ h1,aI,lW G8,kF G8]
  congr 1;simp;omega
 .rw[aP h1];by_cases h2:i<o
  .rw[aI,kF G8,nH h2];simp
  .by_cases h3:i<cs.size
   .rw[lW G8,qB];simp;congr 1;omega
   .rw[iQ G8,ug FP]
section
variable{P:O8}{w0 w:FC}{rs:ae}{ss:O1}{o:Oz}{a:OA}{K:Value->FC->Prop}
def sn(i:Nat)(hm:Own w0 w rs ss)(ho:o.op=.store ty x y)(hx:a.eval x=.pointer (some ⟨g,off,none⟩)){vs:ar}(hy:a.eval y=.agg vs.toArray)
  (hi:rs[i]?=some (g,cs))(ht:Aq P ty vs.length)(hf:off+vs.length<=cs.size)(h1:vs.all Value.oneCell'=true)
  (h:∀w',Own w0 w' (rs.set i (g,puts cs off vs)) ss->K undef w'):Eff P o a w K:=
 Aj i hm ho hx hy hi (by simpa using ht) (by simpa using hf) (Dp h1) (Qg cs off vs hf) h
end
end
def But(w0:FC)(g:Nat)(rs:ae)(ss:O1)(W:FC):Prop:=∃cs,Own w0 W ((g,cs)::rs) ss
section
variable{b:OA}{cs ns:ai}{F:Exit->aJ}{t:KT}{l:bt}{f g i id off:Nat}{o:Oz}{R:ae}{S:OE}
section
variable{P:O8}{ops:bl}{Q:Exit->aJ}{a:OA}{w w0:FC}{rs:ae}{ss:O1}{rest:bt}{x y:O7}{dst:Oo}{ty:O4}{pos:String}{af:Ot}{gd:Oq}
def MP{us:ai}{F:Ending->FC->Prop}{v:NY}{S:OE}{f:Nat}(h:Calls P f us w λx w'=>x=.returned v/\S w')(k:∀w',S w'->F (.returned v) w'):Calls P f us w F:=h.mono λx w'⟨e,hb⟩=>by subst e;exact k w' hb
def MW{us:ai}{F:Ending->FC->Prop}{v:NY}{f:Nat}(h:Calls P f us w (RW w v))(k:F (.returned v) w):Calls P f us w F:=h.mono λx w'⟨e,hb⟩=>by subst e hb;exact k
def cB{us:ai}{F:Ending->FC->Prop}{v:NY}(h:Calls P f us w (RB w v))(hm:Own w0 w rs ss)(k:∀w',Own w0 w' rs ss->F (.returned v) w'):Calls P f us w F:=h.mono λx w'⟨e,hb⟩=>by subst e;exact k w' (hm.call hb)
def kq{v:NY}(h:bX P ops Q t S b w)(ho:ops.toList[i]?=some o:=by rfl)(hw:MZ o ops a:=by rfl)
  (hrun:∀W,(execOp a.eval o).run P W=.ok (.value v) W:=by intro W;go_simp;rfl)(hb:a.put o.dst v=b:=by exact gJ):bX P ops Q (.rp i t) S a w:=bj ho hw hrun (hb▸h)
def km{v:NY}(hrun:∀W,S W->(execOp a.eval o).run P W=.ok (.value v) W)(h:bX P ops Q t S b w)(ho:ops.toList[i]?=some o:=by rfl)(hw:MZ o ops a:=by rfl)
  (hb:a.put o.dst v=b:=by exact gJ):bX P ops Q (.rm i t) S a w:=eO ho hw hrun (hb▸h)
def wl(t:O4)(i:Nat)(hm:Own w0 w rs ss){v:NY}(h:wpList P ops Q rest (a.put dst v) w)(hg:MZ ⟨dst,.load t x,ty,pos,af,gd⟩ ops a:=by exact Gx)(hx:a.eval x=.pointer (some ⟨g,off,none⟩):=by exact Gx)(hi:rs[i]?=some (g,cs):=by exact Gx)(ht:ET P t:=by exact NW)(hv:cs[off]?=some v:=by exact Gx):wpList P ops Q (⟨dst,.load t x,ty,pos,af,gd⟩::rest) a w:=A8 hg (ld i hm rfl hx hi ht hv) h
def aM(t:O4)(i:Nat)(hm:Own w0 w rs ss)(h:wpList P ops Q rest (a.put dst (.agg cs)) w)(hg:MZ ⟨dst,.load t x,ty,pos,af,gd⟩ ops a:=by exact Gx)(hx:a.eval x=.pointer g:=by exact Gx)(hi:rs[i]?=some (g,cs):=by exact Gx)(ht:Aq P t cs.size:=by exact Nr):wpList P ops Q (⟨dst,.load t x,ty,pos,af,gd⟩::rest) a w:=A8 hg (eK i hm rfl hx hi ht) h
def wa(t:O4)(hm:Own w0 w rs ss)(hz:∀w,(zeroValue t).run P w=.ok (.agg cs) w)(h:∀w' g,Own w0 w' ((g,cs)::rs) ss->wpList P ops Q rest (a.put dst (.pointer (some ⟨g,0,none⟩))) w')(hg:MZ ⟨dst,.alloc t,ty,pos,af,gd⟩ ops a:=by exact Gx):wpList P ops Q (⟨dst,.alloc t,ty,pos,af,gd⟩::rest) a w:=Ad hg (Dl hm rfl hz h)
def wb(hm:Own w0 w rs ss){t:O4}(h:∀w' g,Own w0 w' ((g,cs)::rs) ss->wpList P ops Q rest (a.put dst (.pointer (some ⟨g,0,none⟩))) w')(hg:MZ ⟨dst,.box t x,ty,pos,af,gd⟩ ops a:=by exact Gx)(hx:a.eval x=.agg cs:=by exact Gx):wpList P ops Q (⟨dst,.box t x,ty,pos,af,gd⟩::rest) a w:=Ad hg (xD hm rfl hx h)
def ws(t:O4)(i:Nat)(hm:Own w0 w rs ss){us:ai}(h:∀w',Own w0 w' R ss->wpList P ops Q rest (a.put dst undef) w')(hg:MZ ⟨dst,.store t x y,ty,pos,af,gd⟩ ops a:=by exact Gx)(hx:a.eval x=.pointer g:=by exact Gx)(hy:a.eval y=.agg us:=by exact Ns)(hi:rs[i]?=some (g,cs):=by exact Gx)(ht:Aq P t us.size:=by exact Nr)(hs:us.size=cs.size:=by exact Gx)(h1:∀v∈us,v.oneCell'=true:=by with_unfolding_all exact Dp rfl)(hR:rs.set i (g,us)=R:=by exact Nu):wpList P ops Q (⟨dst,.store t x y,ty,pos,af,gd⟩::rest) a w:=Ad hg (Aw i hm rfl hx hy hi ht hs h1 (hR▸h))
def wu(t:O4)(i:Nat)(hm:Own w0 w rs ss){us:ar}(h:∀w',Own w0 w' R ss->wpList P ops Q rest (a.put dst undef) w')(hg:MZ ⟨dst,.store t x y,ty,pos,af,gd⟩ ops a:=by exact Gx)(hx:a.eval x=.pointer (some ⟨g,off,none⟩):=by exact Gx)(hy:a.eval y=.agg us.toArray:=by exact Ns)(hi:rs[i]?=some (g,cs):=by exact Gx)(ht:Aq P t us.length:=by exact Nr)(hf:off+us.length<=cs.size:=by simp)(h1:us.all Value.oneCell'=true:=by exact Gx)(hR:rs.set i (g,puts cs off us)=R:=by exact Nu):wpList P ops Q (⟨dst,.store t x y,ty,pos,af,gd⟩::rest) a w:=Ad hg (sn i hm rfl hx hy hi ht hf h1 (hR▸h))
def wc(t:O4)(i:Nat)(hm:Own w0 w rs ss){v:NY}(h:∀w',Own w0 w' R ss->wpList P ops Q rest (a.put dst undef) w')(hg:MZ ⟨dst,.store t x y,ty,pos,af,gd⟩ ops a:=by exact Gx)(hx:a.eval x=.pointer (some ⟨g,off,none⟩):=by exact Gx)(hy:a.eval y=v:=by exact Ns)(hi:rs[i]?=some (g,cs):=by exact Gx)(ht:ET P t:=by exact NW)(hf:off<cs.size:=by simp)(hc:v.cells=#[v]:=by exact Gx)(h1:v.oneCell'=true:=by exact Gx)(hn:cs.setIfInBounds off v=ns:=by exact Gx)(hR:rs.set i (g,ns)=R:=by exact Nu):wpList P ops Q (⟨dst,.store t x y,ty,pos,af,gd⟩::rest) a w:=Ad hg (AZ i hm rfl hx hy hi ht hf hc h1 hn (hR▸h))
def rO(hO:Own w0 w rs ss)(k:Nat)(t:KT)(h:∀w',Own w0 w' rs ss->bX prog l.toArray F t (λW=>Own w0 W rs ss) a w')(hm:prog.follows .mixedOrders=true:=by rfl)(hs:Region.noSelect l.toArray=true:=by kernel_rfl)(hlen:t.depth=l.toArray.size:=by rfl)
  (hB:(!(Array.replicate l.toArray.size false).getD k false&&eL l.toArray k (Qv l.toArray k) (Array.replicate l.toArray.size false) t)=true:=by kernel_rfl)(hQ:∀c a d v w,F (.panic c) (a.put d v) w->F (.panic c) a w:=by exact Nk):(Code.region id l.toArray true).wp prog F a w:=NP hO k t hm hs hlen hB hQ h
end
end
section
variable{a:OA}{s x:Int}{l m t:ac}{o:Oz}{w:FC}
def Ff:Aq prog 227 258:=Aq.mk' underlying227 rfl FZ
def gh(h:l.length=258):Aq prog 227 (J .i64 l).size:=by rw[Df,h];exact Ff
def tw(h:l.length=258)(k:m.length=258):(J .i64 l).size=(J .i64 m).size:=by rw[Df,Df,h,k]
def Hf:ac:=List.replicate 258 0
def Az:Hf.length=258:=fp ..
def uU(h:x∈Hf):x=0:=ni h
def t6(w:FC):(zeroValue 227).run prog w=.ok (.agg (J .i64 Hf)) w:=FZ
def ll(t:ac)(s:Int):ac:=t.set s.toNat (gi t s.toNat+1)
def tally(l:ac):ac:=l.foldl ll Hf
def Ix(l:ac)(k:Nat)(h:k<l.length):tally (l.take (k+1))=ll (tally (l.take k)) (gi l k):=by
 rw[FQ l k h,tally,lG];rfl
def Sq{m:Int}(h0:0<=s)(h1:s<258)(hl:t.length=258)(hb:∀x∈t,0<=x/\x<=m):(ll t s).length=258/\∀x∈ll t s,0<=x/\x<=m+1:=by
 refine⟨by rw[ll,cO,hl],λx hx=>?_⟩;rcases kV hx with h|rfl
 .have:=hb x h;omega
 .have hi:s.toNat<t.length:=FP
  have:=hb (gi t s.toNat) (by rw[BZ t _ hi];exact dF hi);omega
def lr(l:ac):Prop:=∀s∈l,0<=s/\s<258
def lr.gi{l:ac}(h:lr l)(k:Nat)(hk:k<l.length):0<=gi l k/\gi l k<258:=h _ (by rw[BZ l k hk];exact dF _)
def qv(l:ac)(hb:lr l):∀k,k<=l.length->(tally (l.take k)).length=258/\∀x∈tally (l.take k),0<=x/\x<=k
|0,_=>by
  refine⟨Az,λx hx=>?_⟩;have:x=0:=uU hx;omega
|k+1,h=>by
  obtain⟨h1,h2⟩:=qv l hb k FP;rw[Ix l k FP];have hx:=hb.gi k FP;have:=Sq hx.1 hx.2 h1 h2;push_cast;exact this
def Rn(hl:t.length=258)(hb:∀x∈t,0<=x/\x<=2147483647):ak 234 #[.agg (J .i64 t)] w (RB w (.bool true)):=by
 have HB:=aa hb;have HL:=aa hl;clear hb;go_enter func234,ntmps234;have hm:=Own.nil w
 go_wp2_with(first
 |refine Ar hm rfl rfl rfl ?_;intro w1 g hm1;clear hm
 |refine Ag rfl rfl rfl (hm1.row 0 rfl) (gh hl) ?_)
 clear hl
 go_loopw[6] (λu wr=>∃k:Nat,k<=258/\u=.int .i64 k/\Own w wr [(g,J .i64 t)] []) (λu _=>258-(intOf u).toNat)
 case atStart=>exact⟨0,FP,rfl,hm1⟩
 case round=>
  obtain⟨k,hk,rfl,hmr⟩:=hrel;clear hm1;by_cases hlt:k<258
  .have hkl:k<t.length:=by rw[HL.o];exact hlt
   have hg:(J .i64 t)[k]?=some (.int .i64 (gi t k)):=XC .i64 t k hkl;obtain⟨hx0,hx1⟩:=HB.o (gi t k) (by rw[BZ t k hkl];exact dF _);have q1:decide (gi t k<0)=false:=an;have q2:decide (2147483647<gi t k)=false:=an;clear hkl hx0 hx1;generalize gi t k=x at*
   go_wp2_with(first
   |refine A8 rfl (DZ rfl rfl rfl underlying227 DR hlt hg) ?_)
   exact MM
  .exact Cn
def Ai0(h0:0<=s)(h1:s<258):ak 235 #[.int .i64 s] w (RW w (.bool true)):=by
 have q1:decide (0<=s)=true:=aW h0;have q2:decide (s<258)=true:=aW h1;go_enter func235,ntmps235;go_wp2;exact eA
def yq(w:FC)(t:ac)(x:Ending)(w':FC):Prop:=x=.returned (.tuple #[.agg (J .i64 t),.int .i64 0])/\Below w.heap.size w w'
def Ah8{v:NY}(hv:In .i64 w v l)(hb:lr l)(hn:l.length<=1000000):ak 194 #[.agg (J .i64 Hf),v] w (yq w (tally l)):=by
 obtain⟨ad,cp,rfl,hc⟩:=hv;obtain⟨i3,hE⟩:=nR;have HE:=aa hE;have HC:=aa hc;have HB:=aa hb;have HK:=aa (qv l hb);have CV:Hid (∀w,ak 234 #[.agg (J .i64 Hf)] w (RB w (.bool true))):=λw=>Rn Az (λx hx=>by rw[uU hx];omega);have h0:=Az;clear hE hc hb;go_enter func194,ntmps194;have hm:=Own.nil w
 go_wp2_with(first
 |refine Ar hm rfl rfl rfl ?_;intro w1 g hm1;clear hm
 |refine AL hm1 rfl rfl t6 ?_;intro w2 g2 hm2;clear hm1
 |refine Ag rfl rfl rfl (hm2.row 1 rfl) (gh h0) ?_
 |(go_at_call 234;have _t:=hm2;refine(CV.o _).mono ?_;rintro e w3⟨rfl,hb3⟩;have hm3:=hm2.call hb3;clear hm2)
 |refine Ag rfl rfl rfl (hm3.row 1 rfl) (gh h0) ?_
 |refine AL hm3 rfl rfl t6 ?_;intro w4 g4 hm4;clear hm3
 |refine AY 0 hm4 rfl rfl rfl rfl rfl (gh h0) (tw h0 h0) J_one ?_;intro w5 hm5;simp only[List.set]at hm5;clear hm4)
 go_loopw[16] (λu wr=>∃k:Nat,k<=l.length/\u=.int .i64 k/\Own w wr [(g4,J .i64 Hf),(g2,J .i64 Hf),(g,J .i64 (tally (l.take k)))] []) (λu _=>l.length-(intOf u).toNat)
 case atStart=>exact⟨0,FP,rfl,hm5⟩
 case round=>
  obtain⟨k,hk,rfl,hmr⟩:=hrel;clear hm5;obtain⟨ht1,ht2⟩:=HK.o k hk;by_cases hlt:k<l.length
  .obtain⟨A,rfl,hA0⟩:=HC.o k hlt;have hA:wr.cell? (A.add k)=some (.int .i64 (gi l k)):=(hmr.below.cell (iK hA0)).trans hA0;have hs:=HB.o.gi k hlt;have HS:=aa (Ix l k hlt);have CI:Hid (∀w,ak 235 #[.int .i64 (gi l k)] w (RW w (.bool true))):=λw=>Ai0 hs.1 hs.2;clear hA0;generalize gi l k=s at*;generalize tally (l.take k)=t at*;obtain⟨n,rfl⟩:=dB hs.1;have hn2:n<258:=FP
   have hci:(J .i64 t)[n]?=some (.int .i64 (gi t n)):=XC .i64 t n FP;have hbd:=ht2 (gi t n) (by rw[BZ t n FP];exact dF _);have q1:(gi t n==2147483647)=false:=by simp;omega
   have q2:decide (gi t n=2147483647)=false:=an;have hw:IntKind.i64.wrap (gi t n+1)=gi t n+1:=av;have hsz:n<(J .i64 t).size:=by rw[Df,ht1];exact hn2
   have hst:(J .i64 t).setIfInBounds n (.int .i64 (gi t n+1))=J .i64 (ll t n):=Y0 .i64 t n (gi t n+1);clear hbd ht1 ht2 hs;generalize gi t n=y at*;generalize ll t n=t2 at*
   go_wp2_with(first
   |refine A8 rfl (Am rfl HE.o rfl rfl rfl hlt) ?_
   |refine A8 rfl (AU rfl rfl DR hA) ?_
   |(go_at_call 235;have _t:=hmr;refine MW (CI.o _) ?_)
   |refine A8 rfl (Aa (off:=n) rfl rfl (hmr.row 2 rfl) DR hci) ?_
   |refine BL (off:=n) (v:=.int .i64 (y+1)) 2 hmr rfl rfl rfl rfl rfl DR hsz rfl rfl hst ?_;intro w7 hm7;simp only[List.set]at hm7;clear hmr)
   rw[<-HS.o]at hm7;exact rG
  .obtain rfl:l.length=k:=FP
   rw[gY]at hmr ht1
   go_wp2_with(first
   |refine Ag rfl rfl rfl (hmr.row 2 rfl) (gh ht1) ?_
   |refine AY 1 hmr rfl rfl rfl rfl rfl (gh ht1) (tw ht1 h0) J_one ?_;intro w7 hm7;simp only[List.set]at hm7;clear hmr)
   refine aD (Af rfl rfl (hm7.row 1 rfl) (gh ht1)) rfl ⟨rfl,hm7.below⟩
def T9(ho:o.op=.build 227 #[]):(execOp a.eval o).run prog w=.ok (.value (.agg (J .i64 Hf))) w:=by
 have hb:prog.built 227 []=some (J .i64 Hf):=FZ
 unfold execOp;simp only[ho,aL,cM,bZ,xQ w 227 _ _ hb,aS,bw]
def SU{v:NY}(hv:In .i64 w v l)(hb:lr l)(hn:l.length<=1000000):ak 155 #[v] w (yq w (tally l)):=by
 have hl:(tally l).length=258:=by have h:=(qv l hb l.length (aX _)).1;rwa[gY]at h
 have CA:Hid (∀W,Below w.heap.size w W->ak 194 #[.agg (J .i64 Hf),v] W (yq W (tally l))):=λW hW=>Ah8 (hv.below hW) hb hn;obtain⟨ad,cp,rfl,hc⟩:=hv;clear hc;generalize tally l=t at*;go_enter func155,ntmps155;have hm:=Own.nil w
 go_wp2_with(first
 |refine AL hm rfl rfl t6 ?_;intro w1 g hm1;clear hm
 |refine A8 rfl (T9 rfl) ?_
 |(go_at_call 194;have _t:=hm1;refine(CA.o _ hm1.below).mono ?_;rintro x w2⟨rfl,hb2⟩;have hm2:=hm1.call hb2;clear hm1)
 |refine AY 0 hm2 rfl rfl rfl rfl rfl (gh hl) (tw hl Az) J_one ?_;intro w3 hm3;simp only[List.set]at hm3;clear hm2)
 refine aD (Af rfl rfl (hm3.row 0 rfl) (gh hl)) rfl ⟨rfl,hm3.below⟩
end
section
variable{n:Int}{l t:ac}{w:FC}
def AeT(n:Int)(w:FC):ak 248 #[.int .i64 n] w (RW w (.bool false)):=by
 have q:(n !=n)=false:=bne_self_eq_false n;go_enter func248,ntmps248;go_wp2;exact eA
def eu(a b:Int):Int:=if a<b then-1 else if b<a then 1 else 0
def LT(a b:Int)(w:FC):ak 207 #[.int .i64 a,.int .i64 b] w (RW w (.int .i64 (eu a b))):=by
 have CN:Hid (∀n w,ak 248 #[.int .i64 n] w (RW w (.bool false))):=aa AeT;rw[eu];by_cases h1:a<b
 .have q1:decide (a<b)=true:=aW h1;rw[aQ h1];exact yL
 .have q1:decide (a<b)=false:=aU h1;rw[aP h1];by_cases h2:b<a
  .have q2:decide (b<a)=true:=aW h2;rw[aQ h2];exact yL
  .have q2:decide (b<a)=false:=aU h2;rw[aP h2];exact yL
def AhM(h0:0<=n)(h1:n<=2147483647):ak 239 #[.int .i64 n] w (RW w (.bool false)):=by
 have q1:decide (n<0)=false:=an;have q2:decide (2147483647<n)=false:=an;go_enter func239,ntmps239;go_wp2;exact eA
def UX{v:NY}(hv:In .i64 w v l)(hb:∀x∈l,0<=x/\x<=2147483647)(hn:l.length<=1000000):ak 261 #[v,.func (.func 239) #[] #[]] w (RW w (.int .i64 (-1))):=by
 obtain⟨ad,cp,rfl,hc⟩:=hv;obtain⟨i3,hE⟩:=nR;have HE:=aa hE;have HC:=aa hc;have HB:=aa hb;clear hE hc hb;go_enter func261,ntmps261
 go_wp2_with fail
 go_loopw[8] (λu wr=>∃k:Nat,k<=l.length/\u=.int .i64 k/\wr=w) (λu _=>l.length-(intOf u).toNat)
 case atStart=>exact⟨0,FP,rfl,rfl⟩
 case round=>
  obtain⟨k,hk,rfl,rfl⟩:=hrel;by_cases hlt:k<l.length
  .obtain⟨A,rfl,hA⟩:=HC.o k hlt;have hb:=HB.o (gi l k) JI;have CP:Hid (∀w,ak 239 #[.int .i64 (gi l k)] w (RW w (.bool false))):=λw=>AhM hb.1 hb.2;clear hb;generalize gi l k=x at*
   go_wp2_with(first
   |refine A8 rfl (Am rfl HE.o rfl rfl rfl hlt) ?_
   |refine A8 rfl (AU rfl rfl DR hA) ?_
   |go_at_call 239;refine MW (CP.o _) ?_)
   go_roundw
   case rel=>exact⟨k+1,FP,by go_num,trivial⟩
   case measure=>simp[intOf];omega
  .obtain rfl:l.length=k:=FP
   go_wp2;exact eA
def Vy{v:NY}(hv:In .i64 w v l)(hb:∀x∈l,0<=x/\x<=2147483647)(hn:l.length<=1000000):ak 238 #[v,.func (.func 239) #[] #[]] w (RW w (.bool false)):=by
 have CI:=aa (UX hv hb hn);clear hv hb hn;go_enter func238,ntmps238
 go_wp2_with(first
 |go_at_call 261;refine CI.o.mono ?_;rintro e w2⟨rfl,rfl⟩)
 exact eA
def Ta:(prog.info? 3).map (·.size)=some 1:=FZ
def Ly(hl:t.length=258)(hb:∀x∈t,0<=x/\x<=2147483647):ak 196 #[.agg (J .i64 t)] w (RB w (.bool true)):=by
 have CC:Hid (∀w g,AA w g (J .i64 t)->ak 238 #[.slice (some ⟨g,0,none⟩) 258 258,.func (.func 239) #[] #[]] w (RW w (.bool false))):=λw g hg=>Vy ⟨_,258,by rw[hl],λi hi=>⟨_,rfl,by rw[fQ,dA,hg.cell,XC _ _ _ hi]⟩⟩ hb FP;clear hb;go_enter func196,ntmps196;have hm:=Own.nil w
 go_wp2_with(first
 |refine Ar hm rfl rfl rfl ?_;intro w1 g hm1;clear hm
 |refine A8 rfl (Iq rfl underlying227 Ta rfl 0 258 (.inl ⟨rfl,rfl⟩) (.inl ⟨rfl,rfl⟩) FP FP FP rfl rfl rfl) ?_
 |go_at_call 238;refine MW (CC.o _ _ (hm1.row 0 rfl)) ?_)
 go_ret;exact ow
end
section
variable{m n:Int}{c l:ac}{w:FC}
def xW:Aq prog 139 258:=Aq.mk' underlying139 rfl FZ
def F5(h:l.length=258):Aq prog 139 (J .u8 l).size:=by rw[Df,h];exact xW
def share(n:Int):Int:=if n=0 then 0 else if 15<n then 32769 else 32768/2^n.toNat
def KE(n:Int):0<=share n/\share n<=32769:=by
 rw[share];split
 .omega
 .split
  .omega
  .have h1:(0:Int)<2^n.toNat:=by exact nN FU
   refine⟨Ep FU FP,?_⟩;have:=Et (2^n.toNat) (show(0:Int)<=32768 by decide);omega
def lq(h0:0<=n):ak 277 #[.int .u8 n] w (RW w (.int .i64 (share n))):=by
 rw[share];by_cases h1:n=0
 .subst h1;rw[aQ rfl];exact y6
 have q1:(n==0)=false:=by simpa using h1
 rw[aP h1];by_cases h2:15<n
 .have q2:decide (15<n)=true:=aW h2;rw[aQ h2];exact y6
 .have q2:decide (15<n)=false:=aU h2;rw[aP h2];exact y6
def J6(l:ac)(k:Nat):Int:=((l.take k).map share).sum
def Pq(l:ac)(k:Nat)(h:k<l.length):J6 l (k+1)=J6 l k+share (gi l k):=by
 rw[J6,FQ l k h,ES,qQ,J6];simp
def Nz(l:ac):∀k,k<=l.length->0<=J6 l k/\J6 l k<=32769*k
|0,_=>by simp[J6]
|k+1,h=>by
  have h1:=Nz l k FP;have h2:=KE (gi l k);rw[Pq l k h];push_cast;omega
def sum_any(w:FC)(hl:l.length=258)(hb:Bytes l):ak 249 #[.agg (J .u8 l)] w (RB w (.int .i64 (J6 l 258))):=by
 have HB:=aa hb;have HL:=aa hl;clear hb;go_enter func249,ntmps249;have hm:=Own.nil w
 go_wp2_with(first
 |refine Ar hm rfl rfl rfl ?_;intro w1 g hm1;clear hm
 |refine Ag rfl rfl rfl (hm1.row 0 rfl) (F5 hl) ?_)
 clear hl
 go_loopw[2,6] (λz u wr=>∃k:Nat,k<=258/\u=.int .i64 k/\z=.int .i64 (J6 l k)/\Own w wr [(g,J .u8 l)] []) (λ_ u _=>258-(intOf u).toNat)
 case atStart=>exact⟨0,FP,rfl,rfl,hm1⟩
 case round=>
  obtain⟨k,hk,rfl,rfl,hmr⟩:=hrel;clear hm1;by_cases hlt:k<258
  .have hg:(J .u8 l)[k]?=some (.int .u8 (gi l k)):=XC .u8 l k JF;have hS:=Pq l k JF;have h1:=Nz l k (by rw[HL.o];omega);have h2:=KE (gi l k);have CS:Hid (∀w,ak 277 #[.int .u8 (gi l k)] w (RW w (.int .i64 (share (gi l k))))):=λw=>lq (HB.o _ (by rw[BZ l k JF];exact dF _)).1;have HS:=aa hS;have hw:IntKind.i64.wrap (J6 l k+share (gi l k))=J6 l k+share (gi l k):=av;clear hS h1 h2;generalize gi l k=x at*;generalize share x=y at*;generalize J6 l k=z at*
   go_wp2_with(first
   |refine A8 rfl (DZ rfl rfl rfl underlying139 FV hlt hg) ?_
   |(go_at_call 277;have _t:=hmr;refine MW (CS.o _) ?_))
   go_roundw
   case rel=>exact⟨k+1,FP,by go_num,by rw[HS.o],hmr⟩
   case measure=>simp[intOf];omega
  .exact Cn
def fits_any(w:FC)(hl:l.length=258)(hb:Bytes l):ak 264 #[.agg (J .u8 l)] w (RB w (.bool (decide (J6 l 258<=32768)))):=by
 have CS:=aa (λw=>sum_any w hl hb);generalize J6 l 258=z at*;go_enter func264,ntmps264;exact E7
def Xx(w:FC)(hl:l.length=258)(hb:Bytes l):ak 213 #[.agg (J .u8 l)] w (RB w (.bool (J6 l 258==32768))):=by
 have CS:=aa (λw=>sum_any w hl hb);generalize J6 l 258=z at*;go_enter func213,ntmps213;exact E7
def JL(l:ac):Bool:=(J6 l 258==32768)&&decide (0<gi l 257)
def table_any(l:ac)(w:FC)(hl:l.length=258)(hb:Bytes l):ak 168 #[.agg (J .u8 l)] w (RB w (.bool (JL l))):=by
 have CS:=aa (λw=>Xx w hl hb);have hg:(J .u8 l)[257]?=some (.int .u8 (gi l 257)):=XC .u8 l 257 FP;rw[JL];cases hz:(J6 l 258==32768)with
|false=>
  rw[hz]at CS;clear hz;go_enter func168,ntmps168;have hm:=Own.nil w
  go_wp2_with(first
  |refine Ar hm rfl rfl rfl ?_;intro w1 g hm1;clear hm
  |refine Ag rfl rfl rfl (hm1.row 0 rfl) (F5 hl) ?_
  |(go_at_call 213;have _t:=hm1;refine(CS.o _).mono ?_;rintro e w2⟨rfl,hb2⟩;have hm2:=hm1.call hb2;clear hm1))
  exact re
|true=>
  rw[hz]at CS;clear hz;generalize gi l 257=x at*;go_enter func168,ntmps168;have hm:=Own.nil w
  go_wp2_with(first
  |refine Ar hm rfl rfl rfl ?_;intro w1 g hm1;clear hm
  |refine Ag rfl rfl rfl (hm1.row 0 rfl) (F5 hl) ?_
  |(go_at_call 213;have _t:=hm1;refine(CS.o _).mono ?_;rintro e w2⟨rfl,hb2⟩;have hm2:=hm1.call hb2;clear hm1)
  |refine A8 rfl (Aa (off:=257) rfl rfl (hm2.row 0 rfl) FV hg) ?_)
  go_ret;exact⟨by rw[y8];rfl,hm2.below⟩
def SW:Aq prog 296 16:=Aq.mk' underlying296 rfl FZ
def se:ac:=List.replicate 16 0
def gQ(w:FC):(zeroValue 296).run prog w=.ok (.agg (J .i64 se)) w:=FZ
def mR(h:l.length=16):Aq prog 296 (J .i64 l).size:=by rw[Df,h];exact SW
def cnt1(c:ac)(n:Int):ac:=if n<16 then c.set n.toNat (gi c n.toNat+1)else c
def Ji(l:ac):ac:=l.foldl cnt1 se
def Pv(l:ac)(k:Nat)(h:k<l.length):Ji (l.take (k+1))=cnt1 (Ji (l.take k)) (gi l k):=by
 rw[FQ l k h,Ji,lG];rfl
def A0A(h0:0<=n)(hl:c.length=16)(hb:∀x∈c,0<=x/\x<=m):(cnt1 c n).length=16/\∀x∈cnt1 c n,0<=x/\x<=m+1:=by
 rw[cnt1];split
 .refine⟨by rw[cO,hl],λx hx=>?_⟩;rcases kV hx with h|rfl
  .have:=hb x h;omega
  .have hi:n.toNat<c.length:=FP
   have:=hb (gi c n.toNat) (by rw[BZ c _ hi];exact dF hi);omega
 .exact⟨hl,λx hx=>by have:=hb x hx;omega⟩
def QU{l:ac}(hb:Bytes l):∀k,k<=l.length->(Ji (l.take k)).length=16/\∀x∈Ji (l.take k),0<=x/\x<=k
|0,_=>by
  refine⟨rfl,λx hx=>?_⟩;have:x=0:=by simp[Ji,se]at hx;exact hx
  omega
|k+1,h=>by
  obtain⟨h1,h2⟩:=QU hb k FP;rw[Pv l k FP];have hx:=(hb (gi l k) (by rw[BZ l k FP];exact dF _)).1;have:=A0A hx h1 h2;push_cast;exact this
def a0'(w:FC)(hl:l.length=258)(hb:Bytes l):ak 214 #[.agg (J .u8 l)] w (RB w (.agg (J .i64 (Ji l)))):=by
 have HK:=aa (QU hb);have HB:=aa hb;have HL:=aa hl;have HT:Hid (l.take 258=l):=aa (jC FP);clear hb;go_enter func214,ntmps214;have hm:=Own.nil w
 go_wp2_with(first
 |refine Ar hm rfl rfl rfl ?_;intro w1 g hm1;clear hm
 |refine AL hm1 rfl rfl gQ ?_;intro w2 g2 hm2;clear hm1
 |refine Ag rfl rfl rfl (hm2.row 1 rfl) (F5 hl) ?_)
 clear hl
 go_loopw[6] (λu wr=>∃k:Nat,k<=258/\u=.int .i64 k/\Own w wr [(g2,J .i64 (Ji (l.take k))),(g,J .u8 l)] []) (λu _=>258-(intOf u).toNat)
 case atStart=>exact⟨0,FP,rfl,hm2⟩
 case round=>
  obtain⟨k,hk,rfl,hmr⟩:=hrel;clear hm2;by_cases hlt:k<258
  .have hkl:k<l.length:=by rw[HL.o];exact hlt
   have hg:(J .u8 l)[k]?=some (.int .u8 (gi l k)):=XC .u8 l k hkl;have HS:=aa (Pv l k hkl);obtain⟨hc1,hc2⟩:=HK.o k (Nat.le_of_lt hkl);obtain⟨hx,hx2⟩:=HB.o (gi l k) (by rw[BZ l k hkl];exact dF _);clear hkl;generalize gi l k=x at*;generalize Ji (l.take k)=c at*;by_cases h16:x<16
   .obtain⟨n,rfl⟩:=dB hx;have hn:n<16:=FP
    have q1:decide ((n:Int)<16)=true:=aW h16;have hci:(J .i64 c)[n]?=some (.int .i64 (gi c n)):=XC .i64 c n FP;have hbd:=hc2 (gi c n) (by rw[BZ c n FP];exact dF _);have hw:IntKind.i64.wrap (gi c n+1)=gi c n+1:=av;have hsz:n<(J .i64 c).size:=by rw[Df,hc1];exact hn
    have HC:Hid (cnt1 c n=c.set n (gi c n+1)):=aa (by rw[cnt1,aQ h16];rfl);have hst:=Y0 .i64 c n (gi c n+1);clear hbd hc1 hc2;generalize gi c n=y at*
    go_wp2_with(first
    |refine A8 rfl (DZ rfl rfl rfl underlying139 FV hlt hg) ?_
    |refine A8 rfl (Aa (off:=n) rfl rfl (hmr.row 0 rfl) DR hci) ?_
    |refine BL (off:=n) (v:=.int .i64 (y+1)) 0 hmr rfl rfl rfl rfl rfl DR hsz rfl rfl hst ?_;intro w3 hm3;simp only[List.set]at hm3;clear hmr)
    rw[<-HC.o,<-HS.o]at hm3;exact KV
   .have q1:decide (x<16)=false:=aU h16;have hwx:IntKind.i64.wrap x=x:=av;have HC:Hid (cnt1 c x=c):=aa (by rw[cnt1,aP h16]);clear hc1 hc2
    go_wp2_with((refine A8 rfl (DZ rfl rfl rfl underlying139 FV hlt hg) ?_))
    rw[<-HC.o,<-HS.o]at hmr;exact MM
  .obtain rfl:k=258:=FP
   rw[HT.o]at hmr;have hc:=(HK.o 258 (by rw[HL.o];exact aX _)).1;rw[HT.o]at hc
   go_wp2_with(first
   |refine Ag rfl rfl rfl (hmr.row 0 rfl) (mR hc) ?_
   |refine AY 0 hmr rfl rfl rfl rfl rfl (mR hc) rfl J_one ?_;intro w3 hm3;simp only[List.set]at hm3;clear hmr)
   refine aD (AQ rfl rfl (hm3.row 0 rfl) (mR hc)) rfl ⟨rfl,hm3.below⟩
end
section
variable{P M M2 S:ar}{off i n:Nat}{v:NY}
def UL(hP:P.length=off)(hv:M[i]?=some v):(P++(M++S)).toArray[off+i]?=some v:=by
 subst hP;have hi:=(gI.1 hv).1;rw[jI,lW FP,qZ,kF hi,hv]
def Y1(hP:P.length=off)(hi:i<M.length)(v:NY):(P++(M++S)).toArray.setIfInBounds (off+i) v=(P++(M.set i v++S)).toArray:=by
 subst hP;apply qF;simp only[lY];rw[ru _ _ FP,qZ,zk _ _ hi]
def Xl(hP:P.length=off)(hn:M.length=n):(P++(M++S)).toArray.extract off (off+n)=M.toArray:=by
 subst hP hn;apply qF;simp
def bn(hP:P.length=off)(hm:M.length=M2.length):splice (P++(M++S)).toArray off M2.toArray=(P++(M2++S)).toArray:=by
 subst hP;apply qF
 have e:(P++(M++S)).drop (P.length+M2.length)=S:=by
  rw[<-hm,<-xR,BQ,BQ]
 simp[splice,<-hm]
end
section
variable{l:ac}{c i index n:Nat}
def tab(n:Nat)(f:Nat->Int):ac:=(List.range n).map f
def Lm{f:Nat->Int}:(tab n f).length=n:=by simp[tab]
def NE(f:Nat->Int)(h:i<n):gi (tab n f) i=f i:=by simp[gi,tab,h]
def Gi{f g:Nat->Int}(h:∀i,i<n->f i=g i):tab n f=tab n g:=zX λi hi=>h i (dS.1 hi)
def zQ{f:Nat->Int}{v:Int}:(tab n f).set i v=tab n λj=>if j=i then v else f j:=by
 apply lI;intro j;rw[mM];simp only[tab,jH,kX,jT];exact Pk
def a05:List.replicate n (0:Int)=tab n λ_=>0:=by
 apply lI;intro j;simp[tab,List.getElem?_replicate];by_cases h:j<n
 .simp[h]
 .simp[h]
  try omega
def kH(k:Ob)(f g:Nat->Int)(i:Nat)(v:Int)(h:∀j,j<n->(if j=i then v else f j)=g j):(J k (tab n f)).setIfInBounds i (.int k v)=J k (tab n g):=by
 rw[Y0,zQ,Gi h]
def PU(k:Ob)(f:Nat->Int)(h:i<n):(J k (tab n f))[i]?=some (.int k (f i)):=by rw[XC k _ i (by rw[Lm];exact h),NE f h]
def eqn(l:ac)(c:Nat):Int:=(l.countP λx:Int=>decide (x=(c:Int)):Nat)
def aT(l:ac)(c:Nat):Int:=(l.countP λx:Int=>decide (x<(c:Int)):Nat)
def Jm(l:ac)(k:Nat)(h:k<l.length)(c:Nat):eqn (l.take (k+1)) c=eqn (l.take k) c+if gi l k=c then 1 else 0:=by
 rw[eqn,FQ l k h,jJ,eqn,uj];by_cases e:gi l k=c<;>simp[e]
def Fz(l:ac)(c:Nat):0<=eqn l c/\eqn l c<=l.length:=by
 have:=xE (p:=λx:Int=>decide (x=c)) (l:=l);rw[eqn];omega
def Ll(l:ac)(c:Nat):0<=aT l c/\aT l c<=l.length:=by
 have:=xE (p:=λx:Int=>decide (x<c)) (l:=l);rw[aT];omega
def uY(h:Bytes l):aT l 0=0:=by
 rw[aT,List.countP_eq_zero.2]
 .rfl
 .intro x hx;have:=h x hx;simp;omega
def YO:aT l (c+1)=eqn l c+aT l c:=by
 induction l with
|nil=>rfl
|cons a l ih=>
  simp only[aT,eqn,oq]at*;generalize l.countP (λx:Int=>decide (x<((c+1:Nat):Int)))=p at*;generalize l.countP (λx:Int=>decide (x=(c:Int)))=q at*;generalize l.countP (λx:Int=>decide (x<(c:Int)))=r at*;simp only[iR];by_cases h1:a=c
  .rw[aQ h1,aQ FP,aP FP];omega
  .rw[aP h1];by_cases h2:a<c
   .rw[aQ h2,aQ FP];omega
   .rw[aP h2,aP FP];omega
def bc(l:ac)(k:Nat):Int:=1+aT l (gi l k).toNat+eqn (l.take k) (gi l k).toNat
def Iw(index row:Nat):Nat:=if index<row then row-1 else row
def rowsOf(l:ac)(index:Nat)(r:Nat):Int:=if r=index then 0 else bc l (Iw index r)
def Vf(ad:Ov)(cp n:Nat)(row:Nat)(w:FC)(h1:index<=n)(h2:row<=n)(hn:n<=10000000):ak 72 #[.slice ad n cp,.int .i64 index,.int .i64 row] w (RW w (if row=index then .tuple #[.int .i64 0,.bool false]else .tuple #[.int .i64 (Iw index row),.bool true])):=by
 have q1:decide ((index:Int)<0)=false:=an;have q2:decide ((n:Int)<index)=false:=an;have q3:decide ((row:Int)<0)=false:=an;have p2:decide (n<index)=false:=an;have p4:decide (n<row)=false:=an;have q4:decide ((n:Int)<row)=false:=an;rw[Iw];by_cases h:row=index
 .subst h;rw[aQ rfl];clear h1 h2 hn;exact tD
 .rw[aP h];have q5:((row:Int)==index)=false:=by simp;omega
  by_cases hl:index<row
  .have q6:decide ((index:Int)<row)=true:=az;have p6:decide (index<row)=true:=aW hl;have w1:IntKind.i64.wrap ((row:Int)-1)=((row-1:Nat):Int):=by rw[aZ _ FP];omega
   rw[aQ hl];clear h1 h2 hn h hl;exact tD
  .have q6:decide ((index:Int)<row)=false:=an;have p6:decide (index<row)=false:=aU hl;rw[aP hl];clear h1 h2 hn h hl;exact tD
end
section
variable{a:OA}{A:Addr}{ops:bl}{Q:Exit->aJ}{live peak:Int}{b l:ac}{rest:bt}{ss:O1}{c dc dl g ga gd k n p sc:Nat}{o:Oz}{lo x y:O7}{P:O8}{rs:ae}{e t:O4}{i:Oy}{z:NY}{w w0:FC}{S:OE}
def a0m{bytes:Nat} 
  (ho:o.op=.makeSlice t x y)(he:Gv P t e i z bytes)(hx:a.eval x=.int .i64 n)(hy:a.eval y=.int .i64 n)(hb:(bytes:Int)*n<=281474976710656)(hn:(n:Int)<=9223372036854775807):
  (execOp a.eval o).run P w=.ok (.value (.slice (some ⟨w.heap.size,0,none⟩) n n)) (w.alloc (.cells (List.replicate n z).toArray e)):=by
 have hr:=run_make (P:=P) w t e i z he.under he.info he.zero .i64 .i64 n n FP (jG _) IV hn
 have hc:madeCells #[z] n=(List.replicate n z).toArray:=by
  apply uf
  .simp[madeCells]
  .intro i h1 h2;have e:i%1=0:=Nat.mod_one i;simp[madeCells,e]
 unfold execOp;rw[he.cell,he.size,kQ,gB,hc]at hr;exact sY
def Me(n:Nat)(hm:Own w0 w rs ss)(hgd:MZ o ops a){bytes:Nat} 
  (ho:o.op=.makeSlice t x y)(he:Gv P t e i z bytes)(hx:a.eval x=.int .i64 n)(hy:a.eval y=.int .i64 n)(hb:(bytes:Int)*n<=281474976710656)(hn:(n:Int)<=9223372036854775807)
  (h:∀w' g,Own w0 w' ((g,(List.replicate n z).toArray)::rs) ss->wpList P ops Q rest (a.put o.dst (.slice (some ⟨g,0,none⟩) n n)) w'):wpList P ops Q (o::rest) a w:=
 A8 hgd (a0m ho he hx hy hb hn) (h _ _ (hm.alloc _ e))
def Do:(List.replicate n (Value.int .u8 0)).toArray=B (List.replicate n 0):=by simp[B,vs]
def Of{b:Nat}(hm:Own w0 w rs ss)(h1:1<=b)(h2:b<=1048576):ak 22 #[.int .i64 b] w λe w'=>∃ga gd,(e=.returned (.tuple #[.pointer (some ⟨ga,0,none⟩),.int .i64 0]))/\Own w0 w' ((ga,AR (.slice (some ⟨gd,0,none⟩) b b) 0 0)::(gd,B (List.replicate b 0))::rs) ss:=by
 have q1:decide ((b:Int)<1)=false:=an;have q2:decide (1048576<(b:Int))=false:=an;obtain⟨i5,hE⟩:=Md;have HE:=aa hE;clear hE;go_enter func22,ntmps22
 go_wp2_with(first
 |refine Me b hm rfl rfl HE.o rfl rfl FP FP ?_;intro w1 gd hm1;rw[Do]at hm1;clear hm
 |refine Ar (cs:=AR (.slice (some ⟨gd,0,none⟩) b b) 0 0) hm1 rfl rfl rfl ?_;intro w2 ga hm2;clear hm1)
 go_ret2
 exact⟨ga,gd,rfl,hm2⟩
def f9(l:ac)(p:Nat)(b:ac):ac:=l.take p++b++l.drop (p+b.length)
def Wu{i:Nat}(hm:Own w0 w rs ss)(ho:o.op=.call {callee:=.builtin .copy,args:=#[x,y],argTypes:=#[22,22]})(hx:a.eval x=.slice (some ⟨g,p,none⟩) dl dc)(hy:a.eval y=.slice (some A) b.length sc)(hi:rs[i]?=some (g,B l))(hs:∀j u,(vs .u8 b)[j]?=some u->w.cell? (A.add j)=some u)(h0:b.length<=dl)(hn:p+b.length<=l.length):
  ∃w',(execOp a.eval o).run prog w=.ok (.value (.int .i64 b.length)) w'/\Own w0 w' (rs.set i (g,B (f9 l p b))) ss:=by
 obtain⟨t,ht⟩:=hm.row i hi;obtain⟨i5,hE⟩:=Md;have hr:=run_copy_row (P:=prog) w 22 22 o.type 5 g p dl dc A b.length sc (B l) t (vs .u8 b) underlying22 (by rw[hE.info];simp[hE.size]) ht (by rw[Ai];exact(qP h0).symm) hs (by rw[Ai,Ih];exact hn) (Ic _ _)
 have hB:((B l).toList.take p++vs .u8 b++(B l).toList.drop (p+(vs .u8 b).length)).toArray=B (f9 l p b):=by
  simp[B,vs,f9,List.map_take,List.map_drop]
 rw[hB,Ai]at hr;refine⟨w.setRow g (B (f9 l p b)),?_,hm.setRow i _ hi⟩;unfold execOp;simp only[ho,resolve,invoke,builtin,aL,bw,aS,cM,bT,bZ,hx,hy,hr];rfl
def PB{t:OT}(i:Nat)(hm:Own w0 w rs ss)(ho':ops.toList[k]?=some o)(hw:MZ o ops a)(ho:o.op=.call {callee:=.builtin .copy,args:=#[x,y],argTypes:=#[22,22]})(hx:a.eval x=.slice (some ⟨g,p,none⟩) dl dc)(hy:a.eval y=.slice (some A) b.length sc)(hi:rs[i]?=some (g,B l))(hs:∀j u,(vs .u8 b)[j]?=some u->w.cell? (A.add j)=some u)(h0:b.length<=dl)(hn:p+b.length<=l.length)
  (hS:∀w',Own w0 w' (rs.set i (g,B (f9 l p b))) ss->S w')(h:∀w',Own w0 w' (rs.set i (g,B (f9 l p b))) ss->fi prog ops Q t S (a.put o.dst (.int .i64 b.length)) w'):lT prog ops Q k t S a w:=by
 obtain⟨w',hr,h2⟩:=Wu hm ho hx hy hi hs h0 hn;exact Ym ho' hw hr (hS _ h2) (h _ h2)
def SH{bytes:Nat}(ho:o.op=.slice t x (some lo) none none)(he:Gv P t e i z bytes){l:Nat}(hx:a.eval x=.slice g n c)(hl:a.eval lo=.int .i64 l)(h1:l<c)(h2:l<=n)(h3:n<=c):
  (execOp a.eval o).run P w=.ok (.value (.slice (some ⟨g,l,none⟩) (n-l) (c-l))) w:=by
 have h:=ew (P:=P) (w:=w) (l:=l) (h:=n) ho he hx (.inr ⟨.i64,by simp[hl]⟩) (.inl ⟨rfl,rfl⟩) h2 h3;rw[h,Le _ _ _ h1]
def Mg(a n at_:Nat)(l b:ac)(A:Addr)(cb:Nat)(hm:Own w0 w ((ga,AR (.slice gd l.length l.length) live peak)::(gd,B l)::rs) ss)(hs:∀j u,(vs .u8 b)[j]?=some u->w.cell? (A.add j)=some u)(h1:(a:Int)+n<=live)(h2:live<=l.length)(h3:l.length<=1048576)(h4:at_+b.length<=n)(h5:0<b.length):ak 24 #[ga,.agg (SP a n),.int .i64 at_,.slice (some A) b.length cb] w (RO (.bool true) w0 ((ga,AR (.slice gd l.length l.length) live peak)::(gd,B (f9 l (a+at_) b))::rs) ss):=by
 have CH:Hid (∀W,AA W ga (AR (.slice gd l.length l.length) live peak)->ak 64 #[ga,.agg (SP a n)] W (RB W (.bool true))):=λW h=>vZ h FP FP h1 FP;have q1:decide ((at_:Int)<0)=false:=an;have q2:decide ((n:Int)-b.length<at_)=false:=an;have w1:IntKind.i64.wrap ((n:Int)-b.length)=(n:Int)-b.length:=av;obtain⟨e,hee⟩:∃e,e=a+at_:=⟨_,rfl⟩;have w2:IntKind.i64.wrap ((a:Int)+at_)=(e:Int):=by rw[aZ _ FP,hee];push_cast;rfl
 rw[<-hee];have C1:Hid (e<l.length/\b.length<=l.length-e/\e+b.length<=l.length):=aa FP;have HB:Hid (∀W,Below w.heap.size w W->∀j u,(vs .u8 b)[j]?=some u->W.cell? (A.add j)=some u):=λW hW j u hj=>(hW.cell (iK (hs j u hj))).trans (hs j u hj);obtain⟨i5,hE⟩:=Md;have HE:=aa hE;clear hE h1 h2 h3 h4 h5 hs hee;have hb0:Below w.heap.size w w:=Below.refl _ _;go_enter func24,ntmps24
 go_wp2_with(first
 |(refine A8 rfl (show(execOp _ _).run prog w=.ok (.value (.pointer (some ⟨w.heap.size,0,none⟩))) (w.alloc (.cells (SP a n) 50))from rfl) ?_;have hm1:=hm.alloc (SP a n) 50;have hb1:Below w.heap.size w (w.alloc (.cells (SP a n) 50)):=(Below.refl _ _).alloc (aX _) _;have HS1:=aa (HB.o _ hb1);clear hm hb0 hb1;generalize w.alloc (.cells (SP a n) 50)=w3 at hm1 HS1⊢;generalize w.heap.size=g at hm1⊢)
 |refine Ag rfl rfl rfl (hm1.row 0 rfl) Eo ?_
 |(go_at_call 64;have _t:=hm1;refine(CH.o _ (hm1.row 1 rfl)).mono ?_;rintro x w2⟨rfl,hb2⟩;have hm2:=hm1.call hb2;have HS2:Hid (∀j u,(vs .u8 b)[j]?=some u->w2.cell? (A.add j)=some u):=aa (λj u hj=>(hb2.cell (iK (HS1.o j u hj))).trans (HS1.o j u hj));clear hm1 HS1)
 |refine A8 rfl (Aa (off:=1) rfl rfl (hm2.row 0 rfl) DR lN) ?_)
 refine IL (fh 0 10 (.one 10 .done)) (λW=>AA W g (SP a n)/\AA W ga (AR (.slice gd l.length l.length) live peak)) rfl FZ rfl FZ (λ_ _ d _ _ h=>by cases d<;>exact h) ⟨(hm2.drawn (w2.drawn+1)).row 0 rfl,(hm2.drawn (w2.drawn+1)).row 1 rfl⟩ ?_;have k1:=hm2.drawn (w2.drawn+1);have HS3:Hid (∀j u,(vs .u8 b)[j]?=some u->({w2 with drawn:=w2.drawn+1}:FC).cell? (A.add j)=some u):=aa HS2.o;generalize ({w2 with drawn:=w2.drawn+1}:FC)=wn at k1 HS3⊢;clear hm2 HS2;simp only[fh]
 repeat((first
 |refine EW rfl rfl (λW hW=>Aa (off:=0) rfl rfl hW.2 iO mK) ?_
 |refine EW rfl rfl (λW hW=>Aa (off:=0) rfl rfl hW.1 DR lw) ?_
 |refine EW rfl rfl (λW hW=>SH (l:=e) rfl HE.o rfl rfl C1.o.1 (Nat.le_of_lt C1.o.1) (aX _)) ?_
 |refine EW rfl rfl (λW hW=>by go_simp;rfl) ?_);(try simp only[Act.put,s3]))
 refine yh ?_;refine PB 2 k1 rfl rfl rfl rfl rfl rfl HS3.o C1.o.2.1 C1.o.2.2 (λw6 k2=>⟨k2.row 0 rfl,k2.row 1 rfl⟩) (λw6 k2=>?_);simp only[List.set]at k2;clear k1;simp only[Act.put,s3];refine XI ?_;go_simp;go_wp2;go_ret;exact⟨rfl,k2.dropRow⟩
end
section
variable{G:Prop}
def Fo(h:G:=by
 by_cases he:e=0
 .subst he;have HR:Hid (Dt L 0 0 (dNew m) l [] 0=if fin=true then .ok (out++T,k+1)else Dt L q2 i2 d1 (l.drop (k+1)) (out++T) (k+1)):=aa (by rw[hR];simp);obtain⟨hd1,hd2,hd3⟩:=HD.o rfl;simp only at hd1 hd2 hd3;have HD3:=aa hd3;clear hR HD hd3
  go_upto_region 10 with(first
   |(with_reducible first|refine aM 143 0 hm ?_ (ht:=al (DT HL.o))|refine ws 143 2 hm ?_ (ht:=al (DT HL.o)) (hs:=al (jN HL.o HL.o)) (h1:=al Eb);clear hm;intro w hm)
   |(go_at_call 130;have _t:=hm;refine(CE.o _).mono ?_;clear _t;rintro x w1⟨⟨v2,rfl,hs⟩,hb⟩;obtain⟨ad2,cc2,rfl⟩:=hs.shape;obtain⟨Y,hY,hm'⟩:=hm.Ox hb hs;clear hm hs hb;have hm:=hm'.zh;clear hm';have HY:=aa hY;clear hY)
   |(with_reducible first|refine wa 147 hm Dc ?_;clear hm;intro w g15 hm|refine aM 147 1 hm ?_ (ht:=al (BJ HV.o.len))|refine ws 147 0 hm ?_ (ht:=al (BJ HV2.o.len)) (hs:=al (BR HV2.o.len BF)) (h1:=al ep);clear hm;intro w hm))
  refine Wb (S:=λW=>AA W g15 (V d1)) hm (λW h=>h.row 0 rfl) 4 (.am [(0,true),(1,false),(2,false)] (.one 3 (.brk 4 6 (.am [(5,false)] .done)))) rfl (by kernel_rfl) rfl (by kernel_rfl) (λ_ _ d _ _ h=>by cases d<;>exact h) ?_;clear hm;intro w hm;simp only[KT.am];refine km (λW hm=>Du rfl rfl hm (BJ HV2.o.len)) ?_
  iterate 2 refine kq ?_
  refine Bo rfl rfl (GR (A:=[_,_,_,_,_]) (X:=X) hm rfl HEM.o (Ac rfl) HX.o (Ac rfl) (λW h=>HY.o.A1s h) (Ic _ _) (by omega) (by omega) (by omega) ?_);clear hm;intro X2 v3 w hX2 hm;simp only[s2]at hm;obtain⟨ad4,c4,rfl⟩:=hX2.shape;have HX2:=aa hX2;clear hX2;refine⟨λW=>AA W g15 (V d1),λW h=>h,hm.row 0 rfl,?_⟩
  try simp only[Act.put,s3]
  refine Em rfl rfl (Aw 2 hm rfl rfl (Ac rfl) rfl (BJ HV2.o.len) (BR HV2.o.len HV.o.len) ep ?_)
  clear hm;intro w hm
  try simp only[puts,s2,List.set,List.eraseIdx,s3]at hm
  refine⟨λW=>Own _ W _ _,hm,?_⟩
  try simp only[Act.put,s3]
  refine kq ?_;refine Ba ?_;go_simp;have HXX:Hid (Lies 1 X2 (.slice ad4 (out.length+T.length) c4) (out++T).length (vs .u8 (out++T))):=aa (by rw[P7,aV];exact HX2.o);cases fin with
 |true=>
   have HR2:Hid (Dt L 0 0 (dNew m) l [] 0=.ok (out++T,k+1)):=aa (by rw[HR.o,aQ rfl]);clear HR;go_wp2;refine aD (fO rfl _ _ _) rfl ?_;rw[HR2.o];exact⟨X2,_,rfl,HXX.o,hm.sub (a1q X2 Y E rs) (aY _)⟩
 |false=>
   have HR2:Hid (Dt L 0 0 (dNew m) l [] 0=Dt L q2 i2 d1 (l.drop (k+1)) (out++T) (k+1)):=aa (by rw[HR.o,aP (by simp)]);clear HR;go_wp2;go_roundw
   case rel=>exact⟨k+1,q2,i2,d1,out++T,X2,Y++E,by omega,by go_num,HP2.o,HV2.o,by rw[aV];push_cast;omega,hd2,HXX.o,HR2.o,by rw[aI];exact hm.dropRow.dropRow⟩
   case measure=>simp[intOf];omega
 .have HR:Hid (Dt L 0 0 (dNew m) l [] 0=.error e):=aa (by rw[hR];simp[he]);have q1:(e !=0)=true:=by simpa using he
  have HE0:=aa he;clear hR he
  go_wp2_with(first
   |(with_reducible first|refine aM 143 0 hm ?_ (ht:=al (DT HL.o))|refine ws 143 2 hm ?_ (ht:=al (DT HL.o)) (hs:=al (jN HL.o HL.o)) (h1:=al Eb);clear hm;intro w hm)
   |(go_at_call 130;have _t:=hm;refine(CE.o _).mono ?_;clear _t;rintro x w1⟨⟨v2,rfl,hs⟩,hb⟩;obtain⟨ad2,cc2,rfl⟩:=hs.shape;obtain⟨Y,hY,hm'⟩:=hm.Ox hb hs;clear hm hs hb;have hm:=hm'.zh;clear hm';have HY:=aa hY;clear hY)
   |(with_reducible first|refine wa 147 hm Dc ?_;clear hm;intro w g15 hm|refine aM 147 1 hm ?_ (ht:=al (BJ HV.o.len))|refine ws 147 0 hm ?_ (ht:=al (BJ HV2.o.len)) (hs:=al (BR HV2.o.len BF)) (h1:=al ep);clear hm;intro w hm))
  try rw[DL]
  refine aD (fO rfl _ _ _) rfl ?_;rw[HR.o];exact⟨HE0.o,rfl,hm.sub (a1i X Y E rs) (aY _)⟩):G:=h
def De(h:G:=by
 clear HR hok ht;simp only[MR.val]at CN
 go_upto_region 11 with(first
  |with_reducible refine wa 88 hm FM ?_;clear hm;intro w g9 hm
  |go_at_call 101;refine cB (CN.o _) hm ?_;clear hm;intro w1 hm
  |with_reducible refine cA (t:=22) ?_;(refine A8 rfl (Am rfl HE.o rfl rfl rfl hlt) ?_)
  |with_reducible refine bh (t:=5) ?_;(refine A8 rfl (AU rfl rfl FV (HA.o _ _ hm)) ?_)
  |with_reducible refine aM 88 0 hm ?_
  |with_reducible (first|refine ws 88 0 hm ?_|refine ws 88 1 hm ?_);clear hm;intro w hm
   )
 refine rO hm 6 (.am [(0,true),(1,false),(2,false),(3,false),(4,false)] (.one 5 (.brk 6 9 (.am [(7,false),(8,false)] .done)))) ?_;clear hm;intro w hm;simp only[KT.am];refine km (λW hm=>eK 1 hm rfl rfl rfl Gt) ?_
 iterate 2 refine kq ?_
 refine bj rfl rfl (λW=>by go_simp;((rw[aZ _ (by omega)];done))) ?_
 try simp only[Act.put,s3]
 refine bj rfl rfl (λW=>ew (l:=k+1) (h:=l.length) rfl HE.o rfl (.inr ⟨_,rfl⟩) (.inl ⟨rfl,rfl⟩) hk1 hlc) ?_
 try simp only[Act.put,s3]
 refine DJ rfl rfl (λK hK=>?_);go_simp;refine(CC.o _ _ _ hm).mono ?_;rintro e w1⟨X,v2,rfl,hX,hm⟩;refine hK _ _ ⟨λW=>Own _ W _ _,λ_ h=>h.A1t,hm,?_⟩;clear hK K
 refine Em rfl rfl (Aw 1 hm rfl rfl (Ac rfl) rfl Gt Na EH ?_)
 clear hm;intro w hm
 try simp only[puts,s2,List.set,List.eraseIdx,s3]at hm
 refine⟨λW=>Own _ W _ _,hm,?_⟩
 try simp only[Act.put,s3]
 iterate 2 refine kq ?_
 refine Ba ?_;go_simp;go_wp2;refine aD (Ae rfl rfl (hm.row 1 rfl) Gt) rfl ?_;rw[HN.o];exact⟨X,v2,rfl,hX,hm.dropRow.dropRow⟩):G:=h
end
end Go.Proofs.YtkpbhdhkdonghaaGreat
