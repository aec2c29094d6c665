/-
  Part 8 of the proof.
-/
import Derived.Test.YtkpbhdhkdonghaaGreatA04
import Derived.Test.YtkpbhdhkdonghaaGreatA07
set_option linter.all false
set_option maxHeartbeats 2000000
set_option maxRecDepth 100000
namespace Go.Proofs.YtkpbhdhkdonghaaGreat
open Go Tryz Go.RowKit
theorem Md:∃ i,Gv prog 22 5 i (.int .u8 0) 1:=Gv.ex underlying22 (by kernel_rfl) rfl
theorem nR:∃ i,Gv prog 124 3 i (.int .i64 0) 8:=Gv.ex underlying124 (by kernel_rfl) rfl
theorem Yl (v:Value) (h:v.oneCell'=true):∀ u ∈ [v],u.oneCell'=true:=by
 intro u hu;rw [List.mem_singleton.1 hu];exact h
def In (k:IntKind) (w:World) (v:Value) (b:I_):Prop:=∃ ad c,v=.slice ad b.length c/\(∀ i,i < b.length->∃ A,ad=some A/\w.cell? (A.add i)=some (.int k (gi b i)))
open Go Go.RowKit
variable {k:IntKind} {b l:I_} {bytes c h i n:Nat} {x:Operand} {ad:Option Addr} {hi lo:Option Operand} {e t:TypeId} {z:Value} {w':World}
def InC (k:IntKind) (w:World) (v:Value) (b:I_):Prop:=∃ ad c,v=.slice ad b.length c/\b.length<=c/\(∀ i,i < b.length->∃ A,ad=some A/\w.cell? (A.add i)=some (.int k (gi b i)))
theorem InC.zu {w:World} {v:Value} (h:InC k w v b):In k w v b:=by
 obtain ⟨ad,c,h1,_,h2⟩:=h;exact ⟨ad,c,h1,h2⟩
theorem InC.A7y {w:World} {v:Value} (h:InC k w v b) (hb:b ≠ []\/v=.slice none 0 0):Src w v (vs k b):=by
 obtain ⟨ad,c,rfl,_,h2⟩:=h;by_cases h0:b.length=0
 ·obtain rfl:=List.eq_nil_of_length_eq_zero h0;rcases hb with hb|hb
  ·exact absurd rfl hb
  ·exact .inl ⟨hb,rfl⟩
 ·obtain ⟨A,rfl,_⟩:=h2 0 (by omega);refine .inr ⟨A,c,by rw [Ai],fun j u hj=>?_⟩
  have hlt:j < b.length:=by
   have:=(List.getElem?_eq_some_iff.1 hj).1;rwa [Ai] at this
  obtain ⟨A',hA',hc⟩:=h2 j hlt;obtain rfl:A=A':=by injection hA'
  rw [hc,<- hj];simp [vs,gi,List.getD_eq_getElem?_getD,l_e hlt]
theorem InC.below {w:World} {v:Value} (h:InC k w v b) (hb:Below w.heap.size w w'):InC k w' v b:=by
 obtain ⟨ad,c,rfl,h1,hc⟩:=h;refine ⟨ad,c,rfl,h1,fun i hi=>?_⟩;obtain ⟨A,rfl,hA⟩:=hc i hi;exact ⟨A,rfl,(hb.cell (block_lt_of_cell hA)).trans hA⟩
def seg (l:I_) (i k:Nat):I_:=(l.take k).drop i
theorem QJ {k:Nat} (h:k<=l.length):(seg l i k).length=k - i:=by
 rw [seg,List.length_drop,List.length_take];omega
theorem zS {k j:Nat} (hk:k<=l.length) (hj:j < k - i):gi (seg l i k) j=gi l (i+j):=by
 have h1:j < (seg l i k).length:=by rw [QJ hk];exact hj
 simp [gi,seg,List.getD_eq_getElem?_getD,List.getElem?_drop,show i+j < k by omega]
def D8 (ad:Option Addr) (c i:Nat):Option Addr:=if c=i then ad else ad.map (·.add i)
theorem InC.sub {w:World} (h:InC k w (.slice ad n c) b) {j:Nat} (hij:i<=j) (hj:j<=n):InC k w (.slice (D8 ad c i) (j - i) (c - i)) (seg b i j):=by
 obtain ⟨ad',c',e,h1,h2⟩:=h;injection e with e1 e2 e3;subst e1 e2 e3;refine ⟨_,_,by rw [QJ hj],by rw [QJ hj];omega,fun q hq=>?_⟩;rw [QJ hj] at hq;obtain ⟨A,rfl,hA⟩:=h2 (i+q) (by omega);have hA2:(A.add i).add q=A.add (i+q):=by rw [Addr.add_add]
 refine ⟨A.add i,by rw [D8,if_neg (by omega)];rfl,?_⟩;rw [hA2,hA,zS hj hq]
section
variable {P:Program} {w:World} {o:Oper} {a:Act}
theorem A04 {i:TypeInfo} (he:Gv P t e i z bytes) {lo hi:Option Value} {l:Nat}
  (hlo:(lo=none/\l=0)\/∃ q,lo=some (.int q l)) (hhi:(hi=none/\h=n)\/∃ q,hi=some (.int q h)) (h1:l<=h) (h2:h<=c) :
  (Instr.sliceAt t (.slice ad n c) lo hi none).run P w=.ok (.slice (D8 ad c l) (h - l) (c - l)) w:=by
 have hl0:(0:Int)<=l:=by omega
 have hh0:(0:Int)<=h:=by omega
 have hlh:(l:Int)<=h:=by omega
 have hhc:(h:Int)<=c:=by omega
 unfold Instr.sliceAt;rw [s_b,r_u he.under];simp only [r_o];unfold Instr.slice;rw [s_b,r_u he.under];simp only [r_o]
 rcases hlo with ⟨rfl,rfl⟩|⟨q1,rfl⟩<;>rcases hhi with ⟨rfl,rfl⟩|⟨q2,rfl⟩ <;>
  simp [Instr.sliceBounds,Instr.sliceBound,asIntOf,sizeOf,typeInfo,he.info,he.size,D8,h1,h2,Result.andThen]
theorem A2Y {i:TypeInfo} (ho:o.op=.slice t x lo hi none) (he:Gv P t e i z bytes) (hx:a.eval x=.slice ad n c) {l:Nat}
  (hlo:(lo.map a.eval=none/\l=0)\/∃ q,lo.map a.eval=some (.int q l)) (hhi:(hi.map a.eval=none/\h=n)\/∃ q,hi.map a.eval=some (.int q h)) (h1:l<=h) (h2:h<=c) :
  (execOp a.eval o).run P w=.ok (.value (.slice (D8 ad c l) (h - l) (c - l))) w:=by
 unfold execOp;simp only [ho,hx,s_b,Option.map_none,A04 he hlo hhi h1 h2,r_o,s_p]
end
def J (k:IntKind) (l:I_):A_:=(vs k l).toArray
theorem Df (k:IntKind) (l:I_):(J k l).size=l.length:=by simp [J,vs]
theorem XC (k:IntKind) (l:I_) (i:Nat) (h:i < l.length):(J k l)[i]?=some (.int k (gi l i)):=by simpa [J] using Fg k l i h
theorem Y0 (k:IntKind) (l:I_) (i:Nat) (x:Int):(J k l).setIfInBounds i (.int k x)=J k (l.set i x):=by
 simp [J,vs,List.map_set]
theorem J_one (k:IntKind) (l:I_):∀ v ∈ J k l,v.oneCell'=true:=fun v hv=>Ic k l v (by simpa [J] using hv)
def W32 (x:Int):Prop:=0<=x/\x<=4294967295
theorem Rj (op:BinOp) (a b:Int):W32 (bits op .u32 a b):=⟨(bits_within op .u32 a b).1,(bits_within op .u32 a b).2⟩
theorem wO:∃ i,Gv prog 34 22 i (.slice none 0 0) 24:=Gv.ex underlying34 (by kernel_rfl) rfl
theorem iO:ET prog 22:=⟨fun w=>by kernel_rfl,by kernel_rfl⟩
theorem A1i:ET prog 72:=⟨fun w=>by kernel_rfl,by kernel_rfl⟩
theorem A2N:Aq prog 219 256:=Aq.mk' underlying219 rfl (by kernel_rfl)
theorem gU (w:World):(zeroValue 219).run prog w=.ok (.agg (J .u32 zeros)) w:=by kernel_rfl
theorem A0P {l:I_} (h:l.length=256):Aq prog 219 (J .u32 l).size:=by rw [Df,h];exact A2N
theorem zM {l m:I_} (h:l.length=256) (k:m.length=256):(J .u32 l).size=(J .u32 m).size:=by rw [Df,Df,h,k]
def cst (x:Int):Int:=bits .xor .u32 (x / 2) (3988292384 * bits .and .u32 x 1 % 4294967296)
def cit:Nat->Int->Int
|0,x=>x
|k+1,x=>cst (cit k x)
def UY (b:Int):Int:=cit 8 b
theorem yY (b:Int) (h0:0<=b) (h1:b < 256):∀ k,W32 (cit k b)
|0=>⟨h0,by show b<=_;omega⟩
|k+1=>by show W32 (cst _);exact Rj _ _ _
theorem wV (b:Int) (w:World) (h0:0<=b) (h1:b < 256):Calls prog 184 #[.int .u8 b] w fun e w'=>(e=.returned (.int .u32 (UY b)))/\Below w.heap.size w w':=by
 have hW:=fun k=>yY b h0 h1 k;go_enter func184,ntmps184
 go_wp2_with fail
 go_loopw [3,6] (fun c u wr=>∃ (k:Nat),k<=8/\u=.int .i64 k/\c=.int .u32 (cit k b)/\wr=w) (fun _ u _=>8 - (intOf u).toNat)
 case atStart=>exact ⟨0,by omega,rfl,rfl,rfl⟩
 case round =>
  obtain ⟨k,hk,rfl,rfl,rfl⟩:=hrel;by_cases hlt:k < 8
  ·have hx:=hW k;have e:cst (cit k b)=cit (k+1) b:=rfl;have HE:=h_ e;clear e hW;obtain ⟨hx0,hx1⟩:=hx;generalize cit k b=x at *
   go_wp2_with fail
   go_roundw
   case rel=>exact ⟨k+1,by omega,by go_num,by rw [<- HE.out];rfl,trivial⟩
   case measure=>simp [intOf];omega
  ·obtain rfl:k=8:=by omega
   go_wp2;go_ret;exact ⟨rfl,Below.refl _ _⟩
def Jo (k:Nat):I_:=(List.range 256).map fun i=>if i < k then UY i else 0
theorem Il (k:Nat):(Jo k).length=256:=by simp [Jo]
theorem nT (k:Nat):(Jo k).set k (UY k)=Jo (k+1):=by
 apply List.ext_getElem?;intro i;by_cases hi:i < 256
 ·by_cases hik:k=i
  ·subst hik;simp [Jo,hi]
  ·rw [List.getElem?_set_ne hik];simp only [Jo,List.getElem?_map,List.getElem?_range hi,Option.map_some];by_cases h2:i < k
   ·rw [if_pos h2,if_pos (by omega)]
   ·rw [if_neg h2,if_neg (by omega)]
 ·rw [List.getElem?_eq_none (by simp [Jo];omega),List.getElem?_eq_none (by simp [Jo];omega)]
theorem nS:zeros=Jo 0:=by decide +kernel
theorem A0f (i:Nat) (h:i < 256):gi (Jo 256) i=UY i:=by simp [gi,Jo,h]
theorem TM (w:World):Calls prog 147 #[] w fun e w'=>(e=.returned (.agg (J .u32 (Jo 256))))/\Below w.heap.size w w':=by
 go_enter func147,ntmps147;have hm:=Own.nil w
 go_wp2_with (first
 |(refine AL hm rfl rfl gU ?_;intro w1 g hm1;clear hm))
 rw [nS] at hm1
 go_loopw [2] (fun u wr=>∃ k:Nat,k<=256/\u=.int .i64 k/\Own w wr [(g,J .u32 (Jo k))] []) (fun u _=>256 - (intOf u).toNat)
 case atStart=>exact ⟨0,by omega,rfl,hm1⟩
 case round =>
  obtain ⟨k,hk,rfl,hmr⟩:=hrel;clear hm1;by_cases hlt:k < 256
  ·have CR:Hid (∀ w,Calls prog 184 #[.int .u8 k] w fun e w'=>(e=.returned (.int .u32 (UY k)))/\Below w.heap.size w w'):=h_ fun w=>wV k w (by omega) (by omega);have HS:=h_ (nT k);have hc:k < (J .u32 (Jo k)).size:=by rw [Df,Il];exact hlt
   generalize UY k=x at *
   go_wp2_with (first
   |(go_at_call 184;have _t:=hmr;refine (CR.out _).mono ?_;rintro e w2 ⟨rfl,hb2⟩;have hm2:=hmr.call hb2;clear hmr)
   |(refine BL (v:=.int .u32 x) 0 hm2 rfl rfl rfl rfl rfl A1i hc rfl rfl (Y0 .u32 (Jo k) k x) ?_;intro w3 hm3;simp only [List.set] at hm3;clear hm2))
   rw [HS.out] at hm3;exact xee
  ·obtain rfl:k=256:=by omega
   go_wp2_with (first
   |(refine Ag rfl rfl rfl (hmr.row 0 rfl) (A0P (Il 256)) ?_)
   |(refine AY 0 hmr rfl rfl rfl rfl rfl (A0P (Il 256)) rfl (J_one _ _) ?_;intro w3 hm3;simp only [List.set] at hm3;clear hmr))
   refine b_r (AQ rfl rfl (hm3.row 0 rfl) (A0P (Il 256))) rfl ⟨rfl,hm3.below⟩
def InS (w:World) (v:Value) (ps:List I_):Prop:=∃ ad c,v=.slice ad ps.length c/\∀ i (h:i < ps.length),∃ A u,ad=some A/\w.cell? (A.add i)=some u/\In .u8 w u ps[i]
def cup (c b:Int):Int:=bits .xor .u32 (UY (bits .xor .u8 (c % 256) b)) (c / 256)
def fd (c:Int) (l:I_):Int:=l.foldl cup c
def fds (c:Int) (ps:List I_):Int:=ps.foldl fd c
theorem A0i (c:Int) (l:I_) (k:Nat) (h:k < l.length):fd c (l.take (k+1))=cup (fd c (l.take k)) (gi l k):=by
 rw [FQ l k h,fd,List.foldl_append];rfl
theorem wG (c:Int) (ps:List I_) (k:Nat) (h:k < ps.length):fds c (ps.take (k+1))=fd (fds c (ps.take k)) ps[k]:=by
 rw [List.take_succ_eq_append_getElem h,fds,List.foldl_append];rfl
theorem aG:∀ (l:I_) (c:Int),W32 c->W32 (fd c l)
|[],_,h=>h
|b::l,c,_=>aG l (cup c b) (Rj _ _ _)
def cno (c:Int):Int:=bits .xor .u32 IntKind.u32.max c
def crc (c:Int) (ps:List I_):Int:=cno (fds (cno c) ps)
theorem A7N:∀ (ps:List I_) (c:Int),W32 c->W32 (fds c ps)
|[],_,h=>h
|p::ps,c,h=>A7N ps (fd c p) (aG p c h)
theorem nV (c:Int) (v:Value) (ps:List I_) (w:World) (hv:InS w v ps) (hb:∀ p ∈ ps,p.length<=1000000000) (hn:ps.length<=1000):Calls prog 107 #[.int .u32 c,v] w fun e w'=>(e=.returned (.int .u32 (crc c ps)))/\Below w.heap.size w w':=by
 obtain ⟨ad,cp,rfl,hcells⟩:=hv;obtain ⟨i34,hE34⟩:=wO;obtain ⟨i5,hE5⟩:=Md;have HE:=h_ hE34;have HE5:=h_ hE5;have HC:=h_ hcells;have HB:=h_ hb;have HW:Hid (∀ ps,W32 (fds (cno c) ps)):=h_ fun ps=>A7N ps _ (Rj _ _ _);clear hE34 hE5 hcells hb;go_enter func107,ntmps107;have hm:=Own.nil w
 go_wp2_with (first
 |(go_at_call 147;have _t:=hm;refine (TM _).mono ?_;rintro e w1 ⟨rfl,hb1⟩;have hm1:=hm.call hb1;clear hm)
 |(refine AL hm1 rfl rfl gU ?_;intro w2 g hm2;clear hm1)
 |(refine AY 0 hm2 rfl rfl rfl rfl rfl (A0P (Il 256)) (zM (Il 256) DK) (J_one _ _) ?_;intro w3 hm3;simp only [List.set] at hm3;clear hm2))
 go_loopw [0,15] (fun z u wr=>∃ k:Nat,k<=ps.length/\u=.int .i64 k/\z=.int .u32 (fds (cno c) (ps.take k))/\Own w wr [(g,J .u32 (Jo 256))] []) (fun _ u _=>ps.length - (intOf u).toNat)
 case atStart=>exact ⟨0,by omega,rfl,rfl,hm3⟩
 case round =>
  obtain ⟨k,hk,rfl,rfl,hmr⟩:=hrel;clear hm3;by_cases hlt:k < ps.length
  ·obtain ⟨A,u,rfl,hA0,hin⟩:=HC.out k hlt;obtain ⟨a2,c2,rfl,hcs⟩:=hin;have hA:wr.cell? (A.add k)=some (.slice a2 ps[k].length c2):=(hmr.below.cell (block_lt_of_cell hA0)).trans hA0;have HS:=h_ (wG (cno c) ps k hlt);have hlk:=HB.out _ (List.getElem_mem hlt);have HWk:=h_ (HW.out (ps.take k));have HP:=h_ hcs;clear hcs hA0;generalize fds (cno c) (ps.take k)=x at *;generalize ps[k]=p at *
   go_wp2_with (first
   |(refine A8 rfl (Am rfl HE.out rfl rfl rfl hlt) ?_)
   |(refine A8 rfl (AU rfl rfl iO hA) ?_))
   go_loopw [0,21] (fun z u wq=>∃ j:Nat,j<=p.length/\u=.int .i64 j/\z=.int .u32 (fd x (p.take j))/\Own w wq [(g,J .u32 (Jo 256))] []) (fun _ u _=>p.length - (intOf u).toNat)
   case atStart=>exact ⟨0,by omega,rfl,rfl,hmr⟩
   case round =>
    obtain ⟨j,hj,rfl,rfl,hmq⟩:=hrel;clear hmr hA;by_cases hlt2:j < p.length
    ·obtain ⟨B,rfl,hB0⟩:=HP.out j hlt2;have hB:wr.cell? (B.add j)=some (.int .u8 (gi p j)):=(hmq.below.cell (block_lt_of_cell hB0)).trans hB0;have HT:=h_ (A0i x p j hlt2);have hw:=aG (p.take j) x HWk.out;obtain ⟨hw0,hw1⟩:=hw;clear hB0;generalize fd x (p.take j)=y at *;generalize gi p j=b at *;have hz:=bits_within .xor .u8 (y % 256) b;obtain ⟨n,hn⟩:=Int.eq_ofNat_of_zero_le hz.1;have hn2:n < 256:=by have h:=hz.2;rw [hn] at h;have:IntKind.u8.max=255:=rfl;omega
     have hg:(J .u32 (Jo 256))[n]?=some (.int .u32 (UY (bits .xor .u8 (y % 256) b))):=by rw [XC _ _ n (by rw [Il];exact hn2),A0f n hn2,hn]
     have hcu:cup y b=bits .xor .u32 (UY (bits .xor .u8 (y % 256) b)) (y / 256):=rfl;rw [hcu] at HT;rw [hn] at hg HT;generalize UY (n:Int)=t at *;clear hz hcu
     go_wp2_with (first
     |(refine A8 rfl (Am rfl HE5.out rfl rfl rfl hlt2) ?_)
     |(refine A8 rfl (AU rfl rfl FV hB) ?_)
     |(refine A8 rfl (Aa (off:=n) rfl rfl (hmq.row 0 rfl) A1i hg) ?_))
     go_roundw
     case rel=>exact ⟨j+1,by omega,by go_num,by rw [HT.out],hmq⟩
     case measure=>simp [intOf];omega
    ·obtain rfl:p.length=j:=by omega
     rw [List.take_length,<- HS.out];go_wp2;go_roundw
     case rel=>exact ⟨k+1,by omega,by go_num,rfl,hmq⟩
     case measure=>simp [intOf];omega
  ·obtain rfl:ps.length=k:=by omega
   rw [List.take_length];have HX:Hid (crc c ps=cno (fds (cno c) ps)):=h_ rfl;generalize fds (cno c) ps=x at *;go_wp2;go_ret;exact ⟨by rw [HX.out];rfl,hmr.below⟩
theorem jM (v:Value) (ps:List I_) (w:World) (hv:InS w v ps) (hb:∀ p ∈ ps,p.length<=1000000000) (hn:ps.length<=1000):Calls prog 48 #[v] w fun e w'=>(e=.returned (.int .u32 (crc 0 ps)))/\Below w.heap.size w w':=by
 have CF:=h_ (nV 0 v ps w hv hb hn);clear hv hb hn;go_enter func48,ntmps48;have hm:=Own.nil w
 go_wp2_with (first
 |(go_at_call 107;have _t:=hm;refine CF.out.mono ?_;rintro e w1 ⟨rfl,hb1⟩;have hm1:=hm.call hb1;clear hm))
 go_ret;exact xhc
variable {a b:Bool} {l m:I_} {s t:L_} {i:Nat} {o:Oper} {x:Operand} {P:Program} {e ty:TypeId} {u:Value} {w:World}
def X (l:I_) (t:L_):A_:=(vs .u8 l++t).toArray
theorem Rq (l:I_) (t:L_):(X l t).size=l.length+t.length:=by simp [X,Ai]
theorem A1x (l:I_) (t:L_) (h:∀ v ∈ t,v.oneCell'=true):∀ v ∈ X l t,v.oneCell'=true:=by
 intro v hv;have hv:v ∈ vs .u8 l++t:=by simpa [X] using hv
 rcases List.mem_append.1 hv with hv|hv
 ·exact Ic .u8 l v hv
 ·exact h v hv
theorem VH (t:L_) (hl:l.length=256):(X l t).extract 0 256=B l:=by
 apply Array.ext';have h:(vs .u8 l).length=256:=by rw [Ai,hl]
 simp [X,B,h]
theorem Zc (t:L_) (hl:l.length=256) (i:Nat):(X l t)[256+i]?=t[i]?:=by
 have h:(vs .u8 l).length=256:=by rw [Ai,hl]
 simp only [X,List.getElem?_toArray];rw [List.getElem?_append_right (by omega),h,Nat.add_sub_cancel_left]
theorem A2r (t:L_) (hl:l.length=256) (i:Nat) (hi:i < 256):(X l t)[i]?=some (.int .u8 (gi l i)):=by
 have h:(vs .u8 l).length=256:=by rw [Ai,hl]
 simp only [X,List.getElem?_toArray];rw [List.getElem?_append_left (by omega),Fg .u8 l i (by omega)]
theorem rM (t:L_) (hl:l.length=256) (i:Nat) (v:Value):(X l t).setIfInBounds (256+i) v=X l (t.set i v):=by
 apply Array.ext';have h:(vs .u8 l).length=256:=by rw [Ai,hl]
 simp only [X,List.setIfInBounds_toArray];rw [List.set_append_right _ _ (by omega),h,Nat.add_sub_cancel_left]
theorem Vg (t:L_) (ht:Aq P ty 256) (hl:l.length=256):(part ty (X l t) 0).run P w=.ok (.agg (B l)) w:=by
 cases hq:P.info? ty with
|none=>have:=ht.size;simp [hq] at this
|some i =>
  have hs:i.size=256:=by have:=ht.size;simpa [hq] using this
  simp [part,ht.agg,sizeOf,typeInfo,hq,hs,VH t hl]
theorem Vh (ht:ET P ty) (hl:l.length=256) {j:Nat} {v:Value} (hj:j=256+i) (hv:t[i]?=some v):(part ty (X l t) j).run P w=.ok v w:=by
 subst hj;simp [part,ht.1,Zc t hl,hv]
theorem bH {d:Nat} {f:Field} {fs:List Field} (hn:f.name ≠ "_") (ho:f.offset=0) (ht:Aq P f.type 256) {i:TypeInfo} (hu:P.underlying f.type=some (.array 256 e)) (he:P.underlying e=some (.int .u8)) (hi:P.info? e=some i) (hc:P.cellsOf e=1)
  (hl:l.length=256) (hm:m.length=256) (hr:(Op.eqFields (d+2) (X l s) (X m t) fs).run P w=.ok b w) :
  (Op.eqFields (d+2) (X l s) (X m t) (f::fs)).run P w=.ok ((l == m) && b) w:=by
 have h:=Gj (P:=P) (w:=w) d hu he hi hc l m hl hm;simp only [Op.eqFields,ne_eq,hn,not_false_eq_true,if_true,ho,s_b,Vg s ht hl,Vg t ht hm,r_o];rw [show (Op.equalIn (d+2) f.type (.agg (B l)) (.agg (B m))).run P w=.ok (l == m) w from h];cases hb:(l == m)<;>simp [hr]
theorem JD {d:Nat} {f:Field} {fs:List Field} (hn:f.name ≠ "_") (ht:ET P f.type) (ho:f.offset=256+i) {v:Value} (hu:s[i]?=some u) (hv:t[i]?=some v) (hl:l.length=256) (hm:m.length=256)
  (ha:(Op.equalIn (d+2) f.type u v).run P w=.ok a w) (hr:(Op.eqFields (d+2) (X l s) (X m t) fs).run P w=.ok b w) :
  (Op.eqFields (d+2) (X l s) (X m t) (f::fs)).run P w=.ok (a && b) w:=by
 simp only [Op.eqFields,ne_eq,hn,not_false_eq_true,if_true,s_b,Vh ht hl ho hu,Vh ht hm ho hv,r_o,ha];cases a<;>simp [hr]
def EV (l:I_) (r:Int):A_:=X l [.int .i64 r]
theorem WE (r:Int) (hl:l.length=256):(EV l r).size=257:=by rw [EV,Rq,hl];rfl
theorem agg57:Aq prog 268 257:=Aq.mk' underlying268 rfl (by kernel_rfl)
theorem aggE (r:Int) (hl:l.length=256):Aq prog 268 (EV l r).size:=by rw [WE r hl];exact agg57
theorem A2X (l:I_) (r:Int):∀ v ∈ EV l r,v.oneCell'=true:=A1x l _ (fun v hv=>by rw [List.mem_singleton.1 hv];rfl)
theorem qo (w:World):(zeroValue 268).run prog w=.ok (.agg (EV zeros 0)) w:=by kernel_rfl
theorem VF (l:I_) (t:L_) (hl:l.length=256) {places:Nat->Option (Nat × Nat)} (hp:places 0=some (0,256)):Instr.fill places (X zeros t) [(0,.agg (B l))]=some (X l t):=by
 have hB:(B l).size=256:=by rw [Ih,hl]
 have hX:(X zeros t).size=256+t.length:=by rw [Rq,DK]
 simp only [Instr.fill,hp,Value.cells,hB,hX]
 have key:∀ (xs:L_) (j:Nat) (pre post:L_),pre.length=j->∀ (mid:L_),mid.length=xs.length ->
   (xs.zipIdx j).foldl (fun (cs:A_) (c:Value × Nat)=>cs.setIfInBounds (0+c.2) c.1) (pre++mid++post).toArray=(pre++xs++post).toArray:=by
  intro xs
  induction xs with
 |nil=>intro j pre post _ mid hmid;obtain rfl:=List.eq_nil_of_length_eq_zero hmid;simp
 |cons x xs ih =>
   intro j pre post hpre mid hmid
   match mid,hmid with
  |m::mid,hmid =>
    simp only [List.zipIdx_cons,List.foldl_cons,Nat.zero_add]
    have e:(pre++m::mid++post).toArray.setIfInBounds j x=((pre++[x])++mid++post).toArray:=by
     apply Array.ext';simp only [List.setIfInBounds_toArray];rw [l_a,List.set_append_right _ _ (by omega),show j - pre.length=0 by omega];simp
    have e2:=ih (j+1) (pre++[x]) post (by simp [hpre]) mid (by simpa using hmid);simp only [Nat.zero_add] at e2;rw [e,e2];simp
 rw [if_neg (by simp)];have e:=key (vs .u8 l) 0 [] t rfl (vs .u8 zeros) (by rw [Ai,Ai,hl,DK])
 congr 1
 rw [<- Array.foldl_toList,Array.toList_zipIdx];simpa [X,B] using e
theorem Xo {a:Act} (ho:o.op=.build 268 #[(0,x)]) (hx:a.eval x=.agg (B l)) (hl:l.length=256):(execOp a.eval o).run prog w=.ok (.value (.agg (EV l 0))) w:=by
 have hz:=qo w
 have hb:prog.built 268 [(0,.agg (B l))]=some (EV l 0):=by
  have hf:(prog.fieldsOf 268).toList.mapM (fun f=>(prog.info? f.type).map fun i=>(f.offset,i.size))=some [(0,256),(256,1)]:=by kernel_rfl
  obtain ⟨i,hi⟩:∃ i,prog.info? 268=some i:=Option.isSome_iff_exists.1 (by kernel_rfl)
  have hzi:i.zero=some (.agg (EV zeros 0)):=by
   have:=hz;simp [zeroValue,typeInfo,hi] at this;cases hzz:i.zero with
  |none=>simp [hzz] at this
  |some z=>simp [hzz] at this;rw [this]
  unfold Program.built;have hu:prog.underlying 268=some (.struct (prog.fieldsOf 268)):=by kernel_rfl
  rw [hi,hu];simp only [hzi,hf];exact VF l [.int .i64 0] hl rfl
 unfold execOp;simp only [ho,s_b,l_y,List.map_cons,List.map_nil,hx,run_build w 268 _ (EV l 0) hb,r_o,s_p]
def Hf:I_:=List.replicate 258 0
theorem Az:Hf.length=258:=l_r ..
theorem uU {x:Int} (h:x ∈ Hf):x=0:=List.eq_of_mem_replicate h
def tal1 (t:I_) (s:Int):I_:=t.set s.toNat (gi t s.toNat+1)
def tally (l:I_):I_:=l.foldl tal1 Hf
def Syms (l:I_):Prop:=∀ s ∈ l,0<=s/\s < 258
variable {a:Act} {r:Bool} {n:Int} {l:I_} {i k:Nat} {o:Oper} {x y:Operand} {P:Program} {t t':TypeId} {w:World}
structure DS where
 l:I_
 left:Int
 run:Int
 dig:Int
 fin:Bool
def DS.tl (b:DS):L_:=[.int .i64 b.left,.int .i64 b.run,.int .i64 b.dig,.bool b.fin]
def V (b:DS):A_:=X b.l b.tl
theorem FT {b:DS} (hl:b.l.length=256):(V b).size=260:=by rw [V,Rq,hl];rfl
theorem agg70:Aq prog 147 260:=Aq.mk' underlying147 rfl (by kernel_rfl)
theorem BJ {b:DS} (hl:b.l.length=256):Aq prog 147 (V b).size:=by rw [FT hl];exact agg70
theorem A35 (b:DS):∀ v ∈ V b,v.oneCell'=true:=A1x _ _ (fun v hv=>by
 simp only [DS.tl,List.mem_cons,List.not_mem_nil,or_false] at hv
 rcases hv with rfl|rfl|rfl|rfl<;>rfl)
theorem Ci {b:DS} (hl:b.l.length=256):(V b).extract 0 (0+(B b.l).size)=B b.l:=by rw [Ih,hl];exact VH _ hl
theorem H8 {b:DS} (hl:b.l.length=256):(V b)[256]?=some (.int .i64 b.left):=Zc b.tl hl 0
theorem H7 {b:DS} (hl:b.l.length=256):(V b)[257]?=some (.int .i64 b.run):=Zc b.tl hl 1
theorem MH {b:DS} (hl:b.l.length=256):(V b)[258]?=some (.int .i64 b.dig):=Zc b.tl hl 2
theorem Qm {b:DS} (hl:b.l.length=256):(V b)[259]?=some (.bool b.fin):=Zc b.tl hl 3
theorem getV0 {b:DS} (hl:b.l.length=256) (i:Nat) (hi:i < 256):(V b)[i]?=some (.int .u8 (gi b.l i)):=A2r b.tl hl i hi
theorem A1e {b:DS} (hl:b.l.length=256) (n:Int):(V b).setIfInBounds 257 (.int .i64 n)=V { b with run:=n }:=rM b.tl hl 1 (.int .i64 n)
theorem A1d {b:DS} (hl:b.l.length=256) (n:Int):(V b).setIfInBounds 258 (.int .i64 n)=V { b with dig:=n }:=rM b.tl hl 2 (.int .i64 n)
theorem NG {b:DS} (hl:b.l.length=256):0+(B b.l).size<=(V b).size:=by rw [Ih,FT hl,hl];omega
theorem ltV {b:DS} (hl:b.l.length=256) (i:Nat) (hi:i < 4):256+i < (V b).size:=by rw [FT hl];omega
theorem BR {b c:DS} (hl:b.l.length=256) (hm:c.l.length=256):(V b).size=(V c).size:=by rw [FT hl,FT hm]
def DS0:DS:=⟨zeros,0,0,0,false⟩
theorem BF:DS0.l.length=256:=DK
theorem Dc (w:World):(zeroValue 147).run prog w=.ok (.agg (V DS0)) w:=by kernel_rfl
theorem X3:ET prog 4:=⟨fun w=>by kernel_rfl,by kernel_rfl⟩
theorem run_equalIn_bool (w:World) (d:Nat) (ht:P.underlying t=some .bool) (a b:Bool):(Op.equalIn (d+1) t (.bool a) (.bool b)).run P w=.ok (a == b) w:=by
 simp [Op.equalIn,r_u ht]
def wQ (b c:DS):Bool:=(b.l == c.l) && ((b.left == c.left) && ((b.run == c.run) && ((b.dig == c.dig) && (b.fin == c.fin))))
theorem eq70 {b c:DS} (w:World) (hl:b.l.length=256) (hm:c.l.length=256):(Op.equalIn 10000 147 (.agg (V b)) (.agg (V c))).run prog w=.ok (wQ b c) w:=by
 obtain ⟨i5,hi5⟩:=info5;have hf:(prog.fieldsOf 147).toList.map (fun f=>(f.name,f.type,f.offset))=[("List",145,0),("Left",3,256),("Run",3,257),("Digits",3,258),("Done",4,259)]:=by kernel_rfl
 rw [run_equalIn_struct w 9999 147 _ _ (by kernel_rfl) (by kernel_rfl)];generalize (prog.fieldsOf 147).toList=fs at hf ⊢;rcases fs with _|⟨f0,_|⟨f1,_|⟨f2,_|⟨f3,_|⟨f4,_|⟨z,t⟩⟩⟩⟩⟩⟩
 ·simp at hf
 ·simp at hf
 ·simp at hf
 ·simp at hf
 ·simp at hf
 ·simp only [List.map_cons,List.map_nil,List.cons.injEq,Prod.mk.injEq,and_true] at hf;obtain ⟨⟨a1,a2,a3⟩,⟨b1,b2,b3⟩,⟨c1,c2,c3⟩,⟨d1,d2,d3⟩,e1,e2,e3⟩:=hf;rw [show (9999:Nat)=9997+2 from rfl,V,V];have h5:(Op.eqFields (9997+2) (X b.l b.tl) (X c.l c.tl) []).run prog w=.ok true w:=by simp [Op.eqFields]
  have h4:=JD (fs:=[]) (f:=f4) (by rw [e1];decide) (by rw [e2];exact X3) (i:=3) (by rw [e3]) (rfl:b.tl[3]?=some (.bool b.fin)) (rfl:c.tl[3]?=some (.bool c.fin)) hl hm (a:=b.fin == c.fin) (by rw [e2];exact run_equalIn_bool w _ underlying4 b.fin c.fin) h5;have h3:=JD (f:=f3) (by rw [d1];decide) (by rw [d2];exact BG) (i:=2) (by rw [d3]) (rfl:b.tl[2]?=some (.int .i64 b.dig)) (rfl:c.tl[2]?=some (.int .i64 c.dig)) hl hm (by rw [d2,run_equalIn_int w _ 3 .i64 .i64 b.dig c.dig underlying3]) h4;have h2:=JD (f:=f2) (by rw [c1];decide) (by rw [c2];exact BG) (i:=1) (by rw [c3]) (rfl:b.tl[1]?=some (.int .i64 b.run)) (rfl:c.tl[1]?=some (.int .i64 c.run)) hl hm (by rw [c2,run_equalIn_int w _ 3 .i64 .i64 b.run c.run underlying3]) h3
  have h1:=JD (f:=f1) (by rw [b1];decide) (by rw [b2];exact BG) (i:=0) (by rw [b3]) (rfl:b.tl[0]?=some (.int .i64 b.left)) (rfl:c.tl[0]?=some (.int .i64 c.left)) hl hm (by rw [b2,run_equalIn_int w _ 3 .i64 .i64 b.left c.left underlying3]) h2;have h0:=bH (f:=f0) (by rw [a1];decide) a3 (by rw [a2];exact A1u) (e:=5) (by rw [a2];exact underlying145) underlying5 hi5 (by kernel_rfl) hl hm h1;rw [h0,Bool.and_true];rfl
 ·simp at hf
theorem dY (ho:o.op=.binOp .eql 147 x y t') {b c:DS} (hx:a.eval x=.agg (V b)) (hy:a.eval y=.agg (V c)) (hl:b.l.length=256) (hm:c.l.length=256) (hb:wQ b c=r) :
  (execOp a.eval o).run prog w=.ok (.value (.bool r)) w:=by
 subst hb;unfold execOp;simp only [ho,hx,hy,s_b,run_eqGuard_agg w .eql 147 x y _ _ (by kernel_rfl:prog.eqGuardType prog.depth 147=false),r_o,run_eql_struct,eq70 w hl hm,s_p]
theorem KR (l:I_) (t:L_) (hl:l.length=256) {places:Nat->Option (Nat × Nat)} (hp:places 0=some (0,256)) (rest:List (Nat × Value)):Instr.fill places (X zeros t) ((0,.agg (B l))::rest)=Instr.fill places (X l t) rest:=by
 have h:=VF l t hl hp;have hB:(B l).size=256:=by rw [Ih,hl]
 have hX:(X zeros t).size=256+t.length:=by rw [Rq,DK]
 simp only [Instr.fill,hp,Value.cells,hB,hX] at h ⊢;rw [if_neg (by simp)] at h ⊢;simp only [Option.some.injEq] at h;rw [h]
theorem KU (t:L_) (hl:l.length=256) {places:Nat->Option (Nat × Nat)} (hp:places k=some (256+i,1)) (hi:i < t.length) {v:Value} (hv:v.cells=#[v]) (rest:List (Nat × Value)):Instr.fill places (X l t) ((k,v)::rest)=Instr.fill places (X l (t.set i v)) rest:=by
 have hX:(X l t).size=256+t.length:=by rw [Rq,hl]
 have hs:=rM t hl i v;simp only [Instr.fill,hp,hv,hX];rw [if_neg (by simp;omega)]
 congr 1
theorem jR (w:World) (parts:List (Nat × Value)) {places:List (Nat × Nat)} (hpl:places=[(0,256),(256,1),(257,1),(258,1),(259,1)]):prog.built 147 parts=Instr.fill (places.toArray[·]?) (V DS0) parts:=by
 subst hpl;have hf:(prog.fieldsOf 147).toList.mapM (fun f=>(prog.info? f.type).map fun i=>(f.offset,i.size))=some [(0,256),(256,1),(257,1),(258,1),(259,1)]:=by kernel_rfl
 obtain ⟨i,hi⟩:∃ i,prog.info? 147=some i:=Option.isSome_iff_exists.1 (by kernel_rfl)
 have hzi:i.zero=some (.agg (V DS0)):=by
  have:=Dc w;simp [zeroValue,typeInfo,hi] at this;cases hzz:i.zero with
 |none=>simp [hzz] at this
 |some z=>simp [hzz] at this;rw [this]
 unfold Program.built;have hu:prog.underlying 147=some (.struct (prog.fieldsOf 147)):=by kernel_rfl
 rw [hi,hu];simp only [hzi,hf];rfl
theorem TG {parts:Array (Nat × Operand)} (ho:o.op=.build 147 parts) {b:DS} (hb:prog.built 147 (parts.map fun (i,x)=>(i,a.eval x)).toList=some (V b)):(execOp a.eval o).run prog w=.ok (.value (.agg (V b))) w:=by
 unfold execOp;simp only [ho,s_b,run_build w 147 _ (V b) hb,r_o,s_p]
theorem KW (ho:o.op=.build 147 #[(0,x),(1,y)]) (hx:a.eval x=.agg (B l)) (hy:a.eval y=.int .i64 n) (hl:l.length=256):(execOp a.eval o).run prog w=.ok (.value (.agg (V ⟨l,n,0,0,false⟩))) w:=by
 refine TG ho ?_;rw [jR w _ rfl];simp only [l_y,List.map_cons,List.map_nil,hx,hy];show Instr.fill _ (X zeros DS0.tl) _=_;rw [KR l _ hl rfl,KU (k:=1) (i:=0) _ hl rfl (by decide) rfl];rfl
theorem Iu (ho:o.op=.build 147 #[(0,x),(4,y)]) {n:Bool} (hx:a.eval x=.agg (B l)) (hy:a.eval y=.bool n) (hl:l.length=256):(execOp a.eval o).run prog w=.ok (.value (.agg (V ⟨l,0,0,0,n⟩))) w:=by
 refine TG ho ?_;rw [jR w _ rfl];simp only [l_y,List.map_cons,List.map_nil,hx,hy];show Instr.fill _ (X zeros DS0.tl) _=_;rw [KR l _ hl rfl,KU (k:=4) (i:=3) _ hl rfl (by decide) rfl];rfl
end Go.Proofs.YtkpbhdhkdonghaaGreat
