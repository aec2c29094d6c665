/- Part 14 of the proof. -/
import Derived.Test.YtkpbhdhkdonghaaGreatS13
set_option linter.all false
set_option maxHeartbeats 4000000
set_option maxRecDepth 100000
namespace Go.Proofs.YtkpbhdhkdonghaaGreat
open Go Tryz Go.RowKit
def cQ(V c:Int):Int:=V*128+c%128
def OG(x:Int)(h0:0<=x)(h1:x<256):bits .and .u8 x 127=x%128:=uX .u8 8 FU wraps_u8 7 FU x h0 h1
def tC{V c:Int}(h0:0<=V)(h1:V<=268435456)(c0:0<=c)(c1:c<=255):bits .or .i64 (V*128) (bits .and .u8 c 127)=cQ V c:=by
 rw[OG c c0 FP,cQ];exact rW .i64 63 FU (λn h0 h1=>aZ n FP) 7 (V*128) (c%128) FP FP FP FP FP FP
def a0J{V M c:Int}(hc:c=128)(hm0:M=0)(hv:DX V M=true)(hM0:0<=M)(hM:M<=4)(hV0:0<=V)(hV:V<=65536)(c0:0<=c)(c1:c<=255){w:FC}:ak 182 #[.agg (VN V M),.int .u8 c] w (RB w (.tuple #[.agg (VN 0 0),.bool false,.int .i64 51])):=by
 have hb0:0<=bits .and .u8 c 127:=by rw[OG c c0 FP];omega
 have hb1:bits .and .u8 c 127<=127:=by rw[OG c c0 FP];omega
 have e1:=aa (tC hV0 FP c0 c1);have CV:Hid (∀w,ak 220 #[.agg (VN V M)] w (RB w (.bool true))):=λw=>by have:=aH V hM0 hM w;rwa[hv]at this
 have hn:cQ V c<=8388735/\0<=cQ V c:=by rw[cQ];omega
 have q1:decide (2147483647<bits .or .i64 (V*128) (bits .and .u8 c 127))=false:=by rw[e1.out];exact aU FP
 subst hc hm0;clear hv;go_enter func182,ntmps182;exact I6
def a0Q{V M c:Int}(hv:DX V M=true)(hM0:0<=M)(hM:M<=4)(hV0:0<=V)(hV:V<=65536)(c0:0<=c)(c1:c<=255)(hf:¬(c=128/\M=0))(hg:¬(M=4/\128<=c)){w:FC}:ak 182 #[.agg (VN V M),.int .u8 c] w (RB w (.tuple #[.agg (VN (cQ V c) (M+1)),.bool (decide (c<128)),.int .i64 0])):=by
 have hb0:0<=bits .and .u8 c 127:=by rw[OG c c0 FP];omega
 have hb1:bits .and .u8 c 127<=127:=by rw[OG c c0 FP];omega
 have e1:=aa (tC hV0 FP c0 c1);have CV:Hid (∀w,ak 220 #[.agg (VN V M)] w (RB w (.bool true))):=λw=>by have:=aH V hM0 hM w;rwa[hv]at this
 have hn:cQ V c<=8388735/\0<=cQ V c:=by rw[cQ];omega
 have q1:decide (2147483647<bits .or .i64 (V*128) (bits .and .u8 c 127))=false:=by rw[e1.out];exact aU FP
 clear hv;by_cases k1:c=128
 .subst k1;have k2:(M==0)=false:=by simp;omega
  have k3:(M==4)=false:=by simp;omega
  exact x6
 have k1:(c==128)=false:=by simpa using k1
 by_cases k3:M=4
 .subst k3;have k4:decide (128<=c)=false:=an;exact x6
 have k3:(M==4)=false:=by simpa using k3
 exact x6
def gW{V M:Int}(h:DX V M=true)(hV:V<=65536)(h0:0<=M)(h1:M<=4):M<=3/\0<=V:=by
 have q0:M=0\/M=1\/M=2\/M=3\/M=4:=FP
 rcases q0 with rfl|rfl|rfl|rfl|rfl<;>simp[DX]at h<;>omega
def hcomes(V:Int){M:Int}(most:Int)(h0:0<=M)(h1:M<=4)(w:FC):ak 181 #[.agg (VN V M),.int .i64 most] w (RB w (.bool (DX V M&&decide (V<=most)))):=by
 have CV:Hid (∀w,ak 220 #[.agg (VN V M)] w (RB w (.bool (DX V M)))):=λw=>aH V h0 h1 w;cases hv:DX V M
 all_goals(rw[hv]at CV;clear hv)
 .go_enter func181,ntmps181;have hm:=Own.nil w
  go_wp2_with(first
  |with_reducible refine wb hm ?_;clear hm;intro w g hm
  |refine UV ?_;try(clear hm;intro w gp hm))
  go_ret;exact cL
 go_enter func181,ntmps181;have hm:=Own.nil w
 go_wp2_with(first
 |with_reducible refine wb hm ?_;clear hm;intro w g hm
 |refine UV ?_;try(clear hm;intro w gp hm))
 all_goals(go_ret;exact⟨rb (by simp[*]),hm.below⟩)
def D5(V M c:Int):Int:=if c=128/\M=0 then 0 else cQ V c
def EM(M c:Int):Int:=if c=128/\M=0 then 0 else M+1
def EZ(M c:Int):Bool:=decide (¬(c=128/\M=0)/\c<128)
def EL(V M c most:Int):Bool:=decide (¬(c=128/\M=0)/\cQ V c<=most/\(128<=c\/0<cQ V c))
def hgrow(V M c most:Int)(hv:DX V M=true)(hM0:0<=M)(hM:M<=4)(hV:V<=65536)(c0:0<=c)(c1:c<=255)(w:FC):ak 137 #[.agg (VN V M),.int .u8 c,.int .i64 most] w (RB w (.tuple #[.agg (VN (D5 V M c) (EM M c)),.bool (EZ M c),.bool (EL V M c most)])):=by
 obtain⟨hM3,hV0⟩:=gW hv hV hM0 hM;by_cases hf:c=128/\M=0
 .have CS:Hid (∀w,ak 182 #[.agg (VN V M),.int .u8 c] w (RB w (.tuple #[.agg (VN 0 0),.bool false,.int .i64 51]))):=λw=>a0J hf.1 hf.2 hv hM0 hM hV0 hV c0 c1;rw[show D5 V M c=0 by rw[D5,aQ hf],show EM M c=0 by rw[EM,aQ hf],show EZ M c=false by simp[EZ,hf.1,hf.2],show EL V M c most=false by simp[EL,hf.1,hf.2]];clear hv hf;exact ul
 have CS:Hid (∀w,ak 182 #[.agg (VN V M),.int .u8 c] w (RB w (.tuple #[.agg (VN (cQ V c) (M+1)),.bool (decide (c<128)),.int .i64 0]))):=λw=>a0Q hv hM0 hM hV0 hV c0 c1 hf FP;rw[show D5 V M c=cQ V c by rw[D5,aP hf],show EM M c=M+1 by rw[EM,aP hf]];have HD:Hid (EZ M c=decide (c<128)):=aa (by simp[EZ,hf]);have HO:Hid (EL V M c most=decide (cQ V c<=most/\(128<=c\/0<cQ V c))):=aa (by simp[EL,hf]);rw[HD.o,HO.o];clear hf hv HD HO;generalize cQ V c=n at*;by_cases k1:n<=most
 all_goals by_cases k2:c<128
 all_goals by_cases k3:0<n
 .have r1:decide (n<=most)=true:=aW k1;have r2:decide (c<128)=true:=aW k2;have r3:decide (0<n)=true:=aW k3;exact ze
 .have r1:decide (n<=most)=true:=aW k1;exact Al
 .have r1:decide (n<=most)=true:=aW k1;have r2:decide (c<128)=false:=aU k2;have r3:decide (0<n)=true:=aW k3;exact ze
 .have r1:decide (n<=most)=true:=aW k1;have r2:decide (c<128)=false:=aU k2;have r3:decide (0<n)=false:=aU k3;exact ze
 .have r1:decide (n<=most)=false:=aU k1;have r2:decide (c<128)=true:=aW k2;have r3:decide (0<n)=true:=aW k3;exact tf
 .have r1:decide (n<=most)=false:=aU k1;exact Al
 .have r1:decide (n<=most)=false:=aU k1;have r2:decide (c<128)=false:=aU k2;have r3:decide (0<n)=true:=aW k3;exact tf
 .have r1:decide (n<=most)=false:=aU k1;have r2:decide (c<128)=false:=aU k2;have r3:decide (0<n)=false:=aU k3;exact tf
section
variable{M k m n p s:Int}{w:FC}
@[reducible] def MS (a V M m p s k:Int):ai:=#[.int .i64 a,.int .i64 V,.int .i64 M,.int .i64 m,.int .i64 p,.int .u32 s,.int .i64 k]
def A1r(k0:0<=k)(k1:k<=3)(s0:0<=s)(s1:s<2^(8*k).toNat):ak 183 #[.int .u32 s,.int .i64 k] w (RB w (.bool true)):=by
 have w1:wi k 0 3=true:=Eu k0 k1;have q0:k=0\/k=1\/k=2\/k=3:=FP
 clear k0 k1;rcases q0 with rfl|rfl|rfl|rfl
 .have hs:s<1:=s1;have q2:s/1=0:=FP
  exact rl
 .have hs:s<256:=s1;have q2:s/256=0:=FP
  exact rl
 .have hs:s<65536:=s1;have q2:s/65536=0:=FP
  exact rl
 have hs:s<16777216:=s1;have q2:s/16777216=0:=FP
 exact rl
def Sr(n0:1<=n)(n1:n<=65536):ak 142 #[.int .i64 n,.agg (MS 0 0 0 0 0 0 0)] w (RB w (.bool true)):=by
 have wn:wi n 1 65536=true:=Eu n0 n1;have w0_:wi 0 1 n=false:=Ri FP;exact sf
def O6(n0:1<=n)(n1:n<=65536){V:Int}(hv:DX V M=true)(hM0:0<=M)(hM:M<=4)(hV:V<=n):ak 142 #[.int .i64 n,.agg (MS 1 V M 0 0 0 0)] w (RB w (.bool true)):=by
 have wn:wi n 1 65536=true:=Eu n0 n1;have w0_:wi 0 1 n=false:=Ri FP;have CC:Hid (∀w,ak 181 #[.agg (VN V M),.int .i64 n] w (RB w (.bool true))):=λw=>by have:=hcomes V n hM0 hM w;rwa[hv,aW hV]at this
 clear hv hV;exact sf
def O5(n0:1<=n)(n1:n<=65536){V:Int}(m0:1<=m)(m1:m<=n)(hv:DX V M=true)(hM0:0<=M)(hM:M<=4)(hV:V<=m):ak 142 #[.int .i64 n,.agg (MS 2 V M m 0 0 0)] w (RB w (.bool true)):=by
 have wn:wi n 1 65536=true:=Eu n0 n1;have wm:wi m 1 n=true:=Eu m0 m1;have wp:wi 0 1 m=false:=Ri FP;have CC:Hid (∀w,ak 181 #[.agg (VN V M),.int .i64 m] w (RB w (.bool true))):=λw=>by have:=hcomes V m hM0 hM w;rwa[hv,aW hV]at this
 clear hv hV;exact sf
def Yt(n0:1<=n)(n1:n<=65536)(m0:1<=m)(m1:m<=n)(p0:1<=p)(p1:p<=m)(k:Int)(k0:0<=k)(k1:k<=3)(s0:0<=s)(s1:s<2^(8*k).toNat):ak 142 #[.int .i64 n,.agg (MS 3 0 0 m p s k)] w (RB w (.bool true)):=by
 have wn:wi n 1 65536=true:=Eu n0 n1;have wm:wi m 1 n=true:=Eu m0 m1;have wp:wi p 1 m=true:=Eu p0 p1;exact Ay
def Yr(n0:1<=n)(n1:n<=65536)(k:Int)(k0:0<=k)(k1:k<=3)(s0:0<=s)(s1:s<2^(8*k).toNat):ak 142 #[.int .i64 n,.agg (MS 5 0 0 0 0 s k)] w (RB w (.bool true)):=by
 have wn:wi n 1 65536=true:=Eu n0 n1;have w0_:wi 0 1 n=false:=Ri FP;exact Ay
end
section
variable{M c:Int}{w:FC}
@[reducible] def HS (a V M n:Int):ai:=#[.int .i64 a,.int .i64 V,.int .i64 M,.int .i64 n]
def Jj(k:Int)(h0:0<=k)(h1:k<=2):ak 136 #[.agg (HS k 0 0 0)] w (RB w (.bool true)):=by
 have q0:k=0\/k=1\/k=2:=FP
 have CW:Hid (∀w,ak 100 #[.int .i64 k,.int .i64 0,.int .i64 3] w (RW w (.bool true))):=λw=>by have:=FX k 0 3 w;rwa[Eu h0 FP]at this
 clear h0 h1;rcases q0 with rfl|rfl|rfl
 .exact xf
 .exact xf
 exact xf
def Tn{V:Int}(hv:DX V M=true)(hM0:0<=M)(hM:M<=4)(hV:V<=65536):ak 136 #[.agg (HS 3 V M 0)] w (RB w (.bool true)):=by
 have CC:Hid (∀w,ak 181 #[.agg (VN V M),.int .i64 65536] w (RB w (.bool true))):=λw=>by have:=hcomes V 65536 hM0 hM w;rwa[hv,aW hV]at this
 clear hv;go_enter func136,ntmps136;have hm:=Own.nil w
 exact te
def vU:ak 98 #[.agg (HS 0 0 0 0),.int .u8 87] w (RB w (.tuple #[.agg (HS 1 0 0 0),.bool false,.int .i64 0])):=by
 have CV:Hid (∀w,ak 136 #[.agg (HS 0 0 0 0)] w (RB w (.bool true))):=λw=>Jj 0 FP FP;exact o3
def vN(hc:c≠87):ak 98 #[.agg (HS 0 0 0 0),.int .u8 c] w (RB w (.tuple #[.agg (HS 0 0 0 0),.bool false,.int .i64 240])):=by
 have CV:Hid (∀w,ak 136 #[.agg (HS 0 0 0 0)] w (RB w (.bool true))):=λw=>Jj 0 FP FP;have q1:(c==((({data:=#[87,80,1]}:ByteArray)[0]'FU).toNat:Int))=false:=(by simpa using hc:(c==87)=false);clear hc;exact o3
def a0a:ak 98 #[.agg (HS 1 0 0 0),.int .u8 80] w (RB w (.tuple #[.agg (HS 2 0 0 0),.bool false,.int .i64 0])):=by
 have CV:Hid (∀w,ak 136 #[.agg (HS 1 0 0 0)] w (RB w (.bool true))):=λw=>Jj 1 FP FP;exact o3
def vM(hc:c≠80):ak 98 #[.agg (HS 1 0 0 0),.int .u8 c] w (RB w (.tuple #[.agg (HS 0 0 0 0),.bool false,.int .i64 240])):=by
 have CV:Hid (∀w,ak 136 #[.agg (HS 1 0 0 0)] w (RB w (.bool true))):=λw=>Jj 1 FP FP;have q1:(c==((({data:=#[87,80,1]}:ByteArray)[1]'FU).toNat:Int))=false:=(by simpa using hc:(c==80)=false);clear hc;exact o3
def vP:ak 98 #[.agg (HS 2 0 0 0),.int .u8 1] w (RB w (.tuple #[.agg (HS 3 0 0 0),.bool false,.int .i64 0])):=by
 have CV:Hid (∀w,ak 136 #[.agg (HS 2 0 0 0)] w (RB w (.bool true))):=λw=>Jj 2 FP FP;exact o3
def vK(hc:c≠1):ak 98 #[.agg (HS 2 0 0 0),.int .u8 c] w (RB w (.tuple #[.agg (HS 0 0 0 0),.bool false,.int .i64 241])):=by
 have CV:Hid (∀w,ak 136 #[.agg (HS 2 0 0 0)] w (RB w (.bool true))):=λw=>Jj 2 FP FP;have q1:(c==((({data:=#[87,80,1]}:ByteArray)[2]'FU).toNat:Int))=false:=(by simpa using hc:(c==1)=false);clear hc;exact o3
def vO{V:Int}(hv:DX V M=true)(hM0:0<=M)(hM:M<=4)(hV:V<=65536)(c0:0<=c)(c1:c<=255)(ho:EL V M c 65536=false):ak 98 #[.agg (HS 3 V M 0),.int .u8 c] w (RB w (.tuple #[.agg (HS 0 0 0 0),.bool false,.int .i64 242])):=by
 have CV:Hid (∀w,ak 136 #[.agg (HS 3 V M 0)] w (RB w (.bool true))):=λw=>Tn hv hM0 hM hV;have CG:=λw=>hgrow V M c 65536 hv hM0 hM hV c0 c1 w;simp only[ho]at CG;have CG:=aa CG;clear hv;generalize D5 V M c=x at*;generalize EM M c=y at*;clear ho;generalize EZ M c=z at*;exact K'
def a0M{V:Int}(hv:DX V M=true)(hM0:0<=M)(hM:M<=4)(hV:V<=65536)(c0:0<=c)(c1:c<=255)(ho:EL V M c 65536=true)(hd:EZ M c=true):ak 98 #[.agg (HS 3 V M 0),.int .u8 c] w (RB w (.tuple #[.agg (HS 4 0 0 (D5 V M c)),.bool true,.int .i64 0])):=L4
def a1s{V:Int}(hv:DX V M=true)(hM0:0<=M)(hM:M<=4)(hV:V<=65536)(c0:0<=c)(c1:c<=255)(ho:EL V M c 65536=true)(hd:EZ M c=false):ak 98 #[.agg (HS 3 V M 0),.int .u8 c] w (RB w (.tuple #[.agg (HS 3 (D5 V M c) (EM M c) 0),.bool false,.int .i64 0])):=L4
end
section
variable{a:OA}{cs ds:ai}{b c n s x:Int}{Q:ar}{o:Oz}{y:O7}{t' ty:O4}{u:NY}{w:FC}
section
variable{P M S:ar}{off i:Nat}{k:Ob}{l m:ac}
def nM{v:NY}(h:P.length=off)(hv:M[i]?=some v):(P++M).toArray[off+i]?=some v:=by
 have e:=UL (S:=[]) h hv;rwa[fF]at e
def o5(h:P.length=off)(hi:i<M.length){v:NY}:(P++M).toArray.setIfInBounds (off+i) v=(P++M.set i v).toArray:=by
 have e:=Y1 (S:=[]) h hi v;rwa[fF,fF]at e
def Yz(h:i<l.length):(vs k l++S).toArray[i]?=some (.int k (gi l i)):=by
 have e:=UL (P:=[]) (off:=0) (S:=S) rfl (Fg k l i h);rwa[dA]at e
def SJ(h:i<l.length)(x:Int):(vs k l++S).toArray.setIfInBounds i (.int k x)=(vs k (l.set i x)++S).toArray:=by
 have e:=Y1 (P:=[]) (off:=0) (S:=S) rfl (show i<(vs k l).length by rw[Ai];omega) (.int k x);rwa[aK,dA]at e
def Hv:(vs k l++S).toArray.extract 0 (0+(J k l).size)=J k l:=by
 rw[Df];exact Xl (P:=[]) (S:=S) (off:=0) rfl (Ai ..)
def lr1(h:l.length=m.length):splice (vs k l++S).toArray 0 (J k m)=(vs k m++S).toArray:=by
 have e:=bn (P:=[]) (M:=vs k l) (M2:=vs k m) (S:=S) (off:=0) rfl (by rw[Ai,Ai,h]);exact e
def Db(h:S.all (λv=>v.oneCell')=true):∀v∈(vs k l++S).toArray,v.oneCell'=true:=λv hv=>
 (dG.1 (by simpa using hv)).elim (Ic k _ v) (iP.1 h v)
end
def TS(l:ac)(s:Int)(b:Int)(n:Int)(d:Int):ai:=(vs .u8 l++([Value.int .i64 s,.int .i64 b,.int .i64 n,.int .i64 d])).toArray
def Dy{l:ac}{d:Int}(hl:l.length=258):(TS l s b n d).size=262:=by simp[TS,Ai,hl]
def Bq{l:ac}{d:Int}(hl:l.length=258):Aq prog 141 (TS l s b n d).size:=by rw[Dy hl];exact ag FU
def Di{l:ac}{d:Int}:∀v∈TS l s b n d,v.oneCell'=true:=Db rfl
def U4{l:ac}{d:Int}(hl:l.length=258){i:Nat}(hi:i<258):(TS l s b n d)[i]?=some (.int .u8 (gi l i)):=Yz FP
def aj{l:ac}{d:Int}(hl:l.length=258){i:Nat}(hi:i<258)(x:Int):(TS l s b n d).setIfInBounds i (.int .u8 x)=TS (l.set i x) s b n d:=SJ FP x
def Jv{l:ac}{d:Int}(hl:l.length=258):(TS l s b n d).extract 0 (0+(J .u8 l).size)=J .u8 l:=Hv
def L9{l:ac}{d:Int}(hl:l.length=258):0+(J .u8 l).size<=(TS l s b n d).size:=by rw[Dy hl,Df,hl];omega
def CJ{l:ac}{d:Int}(hl:l.length=258):(TS l s b n d)[258]?=some (Value.int .i64 s):=nM (off:=258) (i:=0) GN rfl
def ah{l:ac}{d:Int}(hl:l.length=258):(TS l s b n d).setIfInBounds 258 (Value.int .i64 x)=TS l x b n d:=o5 (off:=258) (i:=0) GN (oA rfl)
def kD{l:ac}{d:Int}(hl:l.length=258):258<(TS l s b n d).size:=by rw[Dy hl];omega
def Cb{l:ac}{d:Int}(hl:l.length=258):(TS l s b n d)[259]?=some (Value.int .i64 b):=nM (off:=258) (i:=1) GN rfl
def GY{l:ac}{d:Int}(hl:l.length=258):(TS l s b n d).setIfInBounds 259 (Value.int .i64 x)=TS l s x n d:=o5 (off:=258) (i:=1) GN (oA rfl)
def Es{l:ac}{d:Int}(hl:l.length=258):259<(TS l s b n d).size:=by rw[Dy hl];omega
def yt{l:ac}{d:Int}(hl:l.length=258):(TS l s b n d)[260]?=some (Value.int .i64 n):=nM (off:=258) (i:=2) GN rfl
def IE{l:ac}{d:Int}(hl:l.length=258):(TS l s b n d).setIfInBounds 260 (Value.int .i64 x)=TS l s b x d:=o5 (off:=258) (i:=2) GN (oA rfl)
def JX{l:ac}{d:Int}(hl:l.length=258):260<(TS l s b n d).size:=by rw[Dy hl];omega
def E8{l:ac}{d:Int}(hl:l.length=258):(TS l s b n d)[261]?=some (Value.int .i64 d):=nM (off:=258) (i:=3) GN rfl
def GX{l:ac}{d:Int}(hl:l.length=258):(TS l s b n d).setIfInBounds 261 (Value.int .i64 x)=TS l s b n x:=o5 (off:=258) (i:=3) GN (oA rfl)
def Dz{l:ac}{d:Int}(hl:l.length=258):261<(TS l s b n d).size:=by rw[Dy hl];omega
def CS(l:ac)(c:Int)(b:Int):ai:=(vs .u8 l++([Value.int .i64 c,.int .i64 b])).toArray
def CU{l:ac}(hl:l.length=258):(CS l c b).size=260:=by simp[CS,Ai,hl]
def DT{l:ac}(hl:l.length=258):Aq prog 143 (CS l c b).size:=by rw[CU hl];exact ag FU
def Eb{l:ac}:∀v∈CS l c b,v.oneCell'=true:=Db rfl
def II{l:ac}(hl:l.length=258):(CS l c b).extract 0 (0+(J .u8 l).size)=J .u8 l:=Hv
def IJ{l:ac}(hl:l.length=258):0+(J .u8 l).size<=(CS l c b).size:=by rw[CU hl,Df,hl];omega
def aA{l:ac}(hl:l.length=258){m:ac}(hm:m.length=258):splice (CS l c b) 0 (J .u8 m)=CS m c b:=lr1 FP
def LZ{l:ac}(hl:l.length=258):(CS l c b)[258]?=some (Value.int .i64 c):=nM (off:=258) (i:=0) GN rfl
def yU{l:ac}(hl:l.length=258)(x:Int):(CS l c b).setIfInBounds 258 (Value.int .i64 x)=CS l x b:=o5 (off:=258) (i:=0) GN (oA rfl)
def A13{l:ac}(hl:l.length=258):258<(CS l c b).size:=by rw[CU hl];omega
def Mc{l:ac}(hl:l.length=258):(CS l c b)[259]?=some (Value.int .i64 b):=nM (off:=258) (i:=1) GN rfl
def yV{l:ac}(hl:l.length=258)(x:Int):(CS l c b).setIfInBounds 259 (Value.int .i64 x)=CS l c x:=o5 (off:=258) (i:=1) GN (oA rfl)
def A15{l:ac}(hl:l.length=258):259<(CS l c b).size:=by rw[CU hl];omega
def Jz(w:FC):(zeroValue 141).run prog w=.ok (.agg (TS Hf 0 0 0 0)) w:=FZ
def QA(w:FC):(zeroValue 143).run prog w=.ok (.agg (CS Hf 0 0)) w:=FZ
def Tb{P:O8}{M S:ar}{off n:Nat}(hQ:Q.length=off)(hn:M.length=n)(ht:Aq P ty n):(part ty (Q++(M++S)).toArray off).run P w=.ok (.agg M.toArray) w:=by
 have he:=Xl (S:=S) hQ hn;cases hq:P.info? ty with
|none=>have:=ht.size;simp[hq]at this
|some i=>
  have hs:i.size=n:=by have:=ht.size;simpa[hq]using this
  simp only[part,ht.agg,sizeOf,typeInfo,aL,jL,hq,aS,bw,hs,fP];rw[he]
def Q6{P:O8}{off:Nat}{v:NY}(ht:ET P ty)(hv:cs[off]?=some v):(part ty cs off).run P w=.ok v w:=by
 simp[part,ht.1,hv]
def oY{P:O8}{d:Nat}{f:Field}{fs:List Field}{v:NY}(hn:f.name≠ "_")(hu:(part f.type cs f.offset).run P w=.ok u w)(hv:(part f.type ds f.offset).run P w=.ok v w)
  {a b:Bool}(ha:(Op.equalIn (d+2) f.type u v).run P w=.ok a w)(hr:(Op.eqFields (d+2) cs ds fs).run P w=.ok b w):(Op.eqFields (d+2) cs ds (f::fs)).run P w=.ok (a&&b) w:=by
 simp only[Op.eqFields,ne_eq,hn,zZ,fP,aL,hu,hv,aS,ha];cases a<;>simp[hr]
def UD{l:ac}(s b n d:Int)(w:FC)(hl:l.length=258):(Op.equalIn 10000 141 (.agg (TS l s b n d)) (.agg (TS l s b n d))).run prog w=.ok true w:=by
 obtain⟨i5,hi5⟩:=info5;have hf:(prog.fieldsOf 141).toList.map (λf=>(f.name,f.type,f.offset))=[("Lengths",139,0),("Symbol",3,258),("Bits",3,259),("Now",3,260),("Way",3,261)]:=FZ
 rw[Bc w 9999 141 _ _ FZ FZ];generalize (prog.fieldsOf 141).toList=fs at hf⊢;rcases fs with _|⟨f0,_|⟨f1,_|⟨f2,_|⟨f3,_|⟨f4,_|⟨z,t⟩⟩⟩⟩⟩⟩
 .simp at hf
 .simp at hf
 .simp at hf
 .simp at hf
 .simp at hf
 .simp only[bT,bZ,qE,oz,and_true]at hf;obtain⟨⟨a1,a2,a3⟩,⟨b1,b2,b3⟩,⟨c1,c2,c3⟩,⟨d1,d2,d3⟩,e1,e2,e3⟩:=hf;rw[show(9999:Nat)=9997+2 from rfl];have h5:(Op.eqFields (9997+2) (TS l s b n d) (TS l s b n d) []).run prog w=.ok true w:=by simp[Op.eqFields]
  have cell:∀(f:Field)(o:Nat)(x:Int),f.type=3->f.offset=o->(TS l s b n d)[o]?=some (.int .i64 x)->(part f.type (TS l s b n d) f.offset).run prog w=.ok (.int .i64 x) w:=λf o x h1 h2 h3=>by rw[h1,h2];exact Q6 DR h3
  have ee:∀(f:Field)(x:Int),f.type=3->(Op.equalIn (9997+2) f.type (.int .i64 x) (.int .i64 x)).run prog w=.ok true w:=λf x h1=>by rw[h1,um w _ 3 .i64 .i64 x x underlying3];simp
  have h4:=oY (f:=f4) (by rw[e1];decide) (cell f4 _ _ e2 e3 (E8 hl)) (cell f4 _ _ e2 e3 (E8 hl)) (ee f4 d e2) h5;have h3:=oY (f:=f3) (by rw[d1];decide) (cell f3 _ _ d2 d3 (yt hl)) (cell f3 _ _ d2 d3 (yt hl)) (ee f3 n d2) h4;have h2:=oY (f:=f2) (by rw[c1];decide) (cell f2 _ _ c2 c3 (Cb hl)) (cell f2 _ _ c2 c3 (Cb hl)) (ee f2 b c2) h3;have h1:=oY (f:=f1) (by rw[b1];decide) (cell f1 _ _ b2 b3 (CJ hl)) (cell f1 _ _ b2 b3 (CJ hl)) (ee f1 s b2) h2
  have hp:(part f0.type (TS l s b n d) f0.offset).run prog w=.ok (.agg (J .u8 l)) w:=by
   rw[a2,a3];exact Tb (Q:=[]) (M:=vs .u8 l) rfl (by rw[Ai,hl]) xW
  have hq:(Op.equalIn (9997+2) f0.type (.agg (J .u8 l)) (.agg (J .u8 l))).run prog w=.ok true w:=by
   have h:=Gj (P:=prog) (w:=w) 9997 (k:=.u8) underlying139 underlying5 hi5 FZ l l hl hl;rw[a2];simpa[J]using h
  have h0:=oY (f:=f0) (by rw[a1];decide) hp hp hq h1;rw[h0];rfl
 .simp at hf
def dZ{x:O7}(ho:o.op=.binOp .eql 141 x y t'){l:ac}{d:Int}(hx:a.eval x=.agg (TS l s b n d))(hy:a.eval y=.agg (TS l s b n d))(hl:l.length=258):
  (execOp a.eval o).run prog w=.ok (.value (.bool true)) w:=by
 unfold execOp;simp only[ho,hx,hy,aL,Bf w .eql 141 x y _ _ (FZ:prog.eqGuardType prog.depth 141=false),aS,BM,UD s b n d w hl,bw]
def Dq{parts:Array (Nat×Operand)}(ho:o.op=.build ty parts)(hb:prog.built ty (parts.map λ(i,x)=>(i,a.eval x)).toList=some cs):(execOp a.eval o).run prog w=.ok (.value (.agg cs)) w:=by
 unfold execOp;simp only[ho,aL,xQ w ty _ cs hb,aS,bw]
def UQ{x:O7}(ho:o.op=.build 141 #[(2,x),(3,y)])(hx:a.eval x=.int .i64 b)(hy:a.eval y=.int .i64 n):(execOp a.eval o).run prog w=.ok (.value (.agg (TS Hf 0 b n 0))) w:=
 Dq ho GV
end
section
variable{cs ds hs ms pt x:ai}
structure aq(pt hs ms ts cs ds er:ai):Prop where
 pt:pt.size=1
 hs:hs.size=4
 ms:ms.size=7
 ts:ts.size=262
 cs:cs.size=260
 ds:ds.size=260
 er:er.size=1
section
variable{A B:ai}{P S:ar}{m m2:ai}{off i:Nat}
def ar3{v:NY}(e:A=(P++(m.toList++S)).toArray)(hP:P.length=off)(hv:m[i]?=some v):A[off+i]?=some v:=by
 rw[e];exact UL hP (by rw[cE];exact hv)
def oB(e:A=(P++(m.toList++S)).toArray)(hP:P.length=off):A.extract off (off+m.size)=m:=by
 rw[e];have q:=Xl (M:=m.toList) (S:=S) (n:=m.size) hP G5;rw[q,Array.toArray_toList]
def np(e:A=(P++(m.toList++S)).toArray)(e2:B=(P++(m2.toList++S)).toArray)(hP:P.length=off)(hm:m.size=m2.size):splice A off m2=B:=by
 rw[e,e2];have q:=bn (M:=m.toList) (M2:=m2.toList) (S:=S) hP JG;rwa[Array.toArray_toList]at q
def RK{v:NY}(e:A=(P++(m.toList++S)).toArray)(e2:B=(P++((m.setIfInBounds i v).toList++S)).toArray)(hP:P.length=off)(hi:i<m.size):A.setIfInBounds (off+i) v=B:=by
 rw[e,e2];have q:=Y1 (M:=m.toList) (S:=S) hP (show i<m.toList.length by simpa using hi) v;rw[q];simp
end
def PR(pt hs ms ts cs ds er:ai):ai:=(pt.toList++(hs.toList++(ms.toList++(ts.toList++(cs.toList++(ds.toList++(er.toList))))))).toArray
def Bg{ts er:ai}(h:aq pt hs ms ts cs ds er):(PR pt hs ms ts cs ds er).size=795:=by simp[PR,h.pt,h.hs,h.ms,h.ts,h.cs,h.ds,h.er]
def wj{ts er:ai}(h:aq pt hs ms ts cs ds er):Aq prog 149 (PR pt hs ms ts cs ds er).size:=by rw[Bg h];exact ag FU
def Um{ts er:ai}:PR pt hs ms ts cs ds er=([]++(pt.toList++(hs.toList++(ms.toList++(ts.toList++(cs.toList++(ds.toList++(er.toList)))))))).toArray:=by simp[PR,aI]
def aq.B4{ts er:ai}(h:aq pt hs ms ts cs ds er):([]:ar).length=0:=G5
def FD{ts er:ai}(h:aq pt hs ms ts cs ds er):(PR pt hs ms ts cs ds er).extract 0 (0+pt.size)=pt:=oB Um h.B4
def FH{ts er:ai}(h:aq pt hs ms ts cs ds er):0+pt.size<=(PR pt hs ms ts cs ds er).size:=by rw[Bg h,h.pt];omega
def Eh{ts er:ai}(h:aq pt hs ms ts cs ds er)(hx:x.size=1):splice (PR pt hs ms ts cs ds er) 0 x=PR x hs ms ts cs ds er:=np Um Um h.B4 (by rw[hx,h.pt])
def aq.tA{ts er:ai}(h:aq pt hs ms ts cs ds er)(hx:x.size=1):aq x hs ms ts cs ds er:=⟨hx,h.hs,h.ms,h.ts,h.cs,h.ds,h.er⟩
def OQ{ts er:ai}:PR pt hs ms ts cs ds er=((pt.toList)++(hs.toList++(ms.toList++(ts.toList++(cs.toList++(ds.toList++(er.toList))))))).toArray:=by simp[PR,aI]
def aq.lhs{ts er:ai}(h:aq pt hs ms ts cs ds er):((pt.toList):ar).length=1:=by simp[h.pt]
def Q5{ts er:ai}(h:aq pt hs ms ts cs ds er):(PR pt hs ms ts cs ds er).extract 1 (1+hs.size)=hs:=oB OQ h.lhs
def Qa{ts er:ai}(h:aq pt hs ms ts cs ds er):1+hs.size<=(PR pt hs ms ts cs ds er).size:=by rw[Bg h,h.hs];omega
def Wp{ts er:ai}(h:aq pt hs ms ts cs ds er)(hx:x.size=4):splice (PR pt hs ms ts cs ds er) 1 x=PR pt x ms ts cs ds er:=np OQ OQ h.lhs (by rw[hx,h.hs])
def OM{ts er:ai}(h:aq pt hs ms ts cs ds er){i:Nat}{v:NY}(hv:hs[i]?=some v):(PR pt hs ms ts cs ds er)[1+i]?=some v:=ar3 OQ h.lhs hv
def aq.hs_{ts er:ai}(h:aq pt hs ms ts cs ds er)(hx:x.size=4):aq pt x ms ts cs ds er:=⟨h.pt,hx,h.ms,h.ts,h.cs,h.ds,h.er⟩
def OO{ts er:ai}:PR pt hs ms ts cs ds er=((pt.toList++hs.toList)++(ms.toList++(ts.toList++(cs.toList++(ds.toList++(er.toList)))))).toArray:=by simp[PR,aI]
def aq.vo{ts er:ai}(h:aq pt hs ms ts cs ds er):((pt.toList++hs.toList):ar).length=5:=by simp[h.pt,h.hs]
def LQ{ts er:ai}(h:aq pt hs ms ts cs ds er):(PR pt hs ms ts cs ds er).extract 5 (5+ms.size)=ms:=oB OO h.vo
def LW{ts er:ai}(h:aq pt hs ms ts cs ds er):5+ms.size<=(PR pt hs ms ts cs ds er).size:=by rw[Bg h,h.ms];omega
def Gu{ts er:ai}(h:aq pt hs ms ts cs ds er)(hx:x.size=7):splice (PR pt hs ms ts cs ds er) 5 x=PR pt hs x ts cs ds er:=np OO OO h.vo (by rw[hx,h.ms])
def a16{ts er:ai}(h:aq pt hs ms ts cs ds er){i:Nat}{v:NY}(hv:ms[i]?=some v):(PR pt hs ms ts cs ds er)[5+i]?=some v:=ar3 OO h.vo hv
def aq.IS{ts er:ai}(h:aq pt hs ms ts cs ds er)(hx:x.size=7):aq pt hs x ts cs ds er:=⟨h.pt,h.hs,hx,h.ts,h.cs,h.ds,h.er⟩
def Ul{ts er:ai}:PR pt hs ms ts cs ds er=((pt.toList++hs.toList++ms.toList)++(ts.toList++(cs.toList++(ds.toList++(er.toList))))).toArray:=by simp[PR,aI]
def aq.pG{ts er:ai}(h:aq pt hs ms ts cs ds er):((pt.toList++hs.toList++ms.toList):ar).length=12:=by simp[h.pt,h.hs,h.ms]
def PZ{ts er:ai}(h:aq pt hs ms ts cs ds er):(PR pt hs ms ts cs ds er).extract 12 (12+ts.size)=ts:=oB Ul h.pG
def Q9{ts er:ai}(h:aq pt hs ms ts cs ds er):12+ts.size<=(PR pt hs ms ts cs ds er).size:=by rw[Bg h,h.ts];omega
def LV{ts er:ai}(h:aq pt hs ms ts cs ds er)(hx:x.size=262):splice (PR pt hs ms ts cs ds er) 12 x=PR pt hs ms x cs ds er:=np Ul Ul h.pG (by rw[hx,h.ts])
def aq.xz{ts er:ai}(h:aq pt hs ms ts cs ds er)(hx:x.size=262):aq pt hs ms x cs ds er:=⟨h.pt,h.hs,h.ms,hx,h.cs,h.ds,h.er⟩
def Ur{ts er:ai}:PR pt hs ms ts cs ds er=((pt.toList++hs.toList++ms.toList++ts.toList)++(cs.toList++(ds.toList++(er.toList)))).toArray:=by simp[PR,aI]
def aq.lcs{ts er:ai}(h:aq pt hs ms ts cs ds er):((pt.toList++hs.toList++ms.toList++ts.toList):ar).length=274:=by simp[h.pt,h.hs,h.ms,h.ts]
def LU{ts er:ai}(h:aq pt hs ms ts cs ds er):(PR pt hs ms ts cs ds er).extract 274 (274+cs.size)=cs:=oB Ur h.lcs
def LX{ts er:ai}(h:aq pt hs ms ts cs ds er):274+cs.size<=(PR pt hs ms ts cs ds er).size:=by rw[Bg h,h.cs];omega
def Jy{ts er:ai}(h:aq pt hs ms ts cs ds er)(hx:x.size=260):splice (PR pt hs ms ts cs ds er) 274 x=PR pt hs ms ts x ds er:=np Ur Ur h.lcs (by rw[hx,h.cs])
def aq.p8{ts er:ai}(h:aq pt hs ms ts cs ds er)(hx:x.size=260):aq pt hs ms ts x ds er:=⟨h.pt,h.hs,h.ms,h.ts,hx,h.ds,h.er⟩
def Uo{ts er:ai}:PR pt hs ms ts cs ds er=((pt.toList++hs.toList++ms.toList++ts.toList++cs.toList)++(ds.toList++(er.toList))).toArray:=by simp[PR,aI]
def aq.Dd{ts er:ai}(h:aq pt hs ms ts cs ds er):((pt.toList++hs.toList++ms.toList++ts.toList++cs.toList):ar).length=534:=by simp[h.pt,h.hs,h.ms,h.ts,h.cs]
def Q7{ts er:ai}(h:aq pt hs ms ts cs ds er):(PR pt hs ms ts cs ds er).extract 534 (534+ds.size)=ds:=oB Uo h.Dd
def Qb{ts er:ai}(h:aq pt hs ms ts cs ds er):534+ds.size<=(PR pt hs ms ts cs ds er).size:=by rw[Bg h,h.ds];omega
def Q8{ts er:ai}(h:aq pt hs ms ts cs ds er)(hx:x.size=260):splice (PR pt hs ms ts cs ds er) 534 x=PR pt hs ms ts cs x er:=np Uo Uo h.Dd (by rw[hx,h.ds])
def aq.sj{ts er:ai}(h:aq pt hs ms ts cs ds er)(hx:x.size=260):aq pt hs ms ts cs x er:=⟨h.pt,h.hs,h.ms,h.ts,h.cs,hx,h.er⟩
def Un{ts er:ai}:PR pt hs ms ts cs ds er=((pt.toList++hs.toList++ms.toList++ts.toList++cs.toList++ds.toList)++(er.toList++[])).toArray:=by simp[PR,aI]
def aq.E9{ts er:ai}(h:aq pt hs ms ts cs ds er):((pt.toList++hs.toList++ms.toList++ts.toList++cs.toList++ds.toList):ar).length=794:=by simp[h.pt,h.hs,h.ms,h.ts,h.cs,h.ds]
def yK{ts er:ai}(h:aq pt hs ms ts cs ds er){i:Nat}{v:NY}(hv:er[i]?=some v):(PR pt hs ms ts cs ds er)[794+i]?=some v:=ar3 Un h.E9 hv
def qc{ts er:ai}(h:aq pt hs ms ts cs ds er){i:Nat}(hi:i<1){v:NY}:(PR pt hs ms ts cs ds er).setIfInBounds (794+i) v=PR pt hs ms ts cs ds (er.setIfInBounds i v):=RK Un Un h.E9 (by rw[h.er];exact hi)
end
section
variable{a:OA}{cs ds hs ms pt:ai}{M M' N N' P P' S S' e e' k k':Int}{ss:O1}{o:Oz}{x y:O7}{t t':NY}{w w0:FC}
def aw(k N M P S:Int)(t:NY)(e:Int):ai:=#[.int .u8 k,.int .i64 N,.int .i64 M,.int .i64 P,.int .u32 S,t,.int .i64 e]
def PT(k:Int):ai:=#[.int .i64 k]
def ER(e:Int):ai:=#[.int .i64 e]
def BX(w:FC):(zeroValue 76).run prog w=.ok (.agg (aw 0 0 0 0 0 (.slice none 0 0) 0)) w:=FZ
def Cm:Aq prog 134 (PT k).size:=ag rfl
def Dw:Aq prog 76 (aw k N M P S t e).size:=ag rfl
def yS:(aw k N M P S t e).size=(aw k' N' M' P' S' t' e').size:=rfl
def Ei:∀v∈PT k,v.oneCell'=true:=Dp (cs:=[.int .i64 k]) rfl
def Ak(h:t.oneCell'=true):∀v∈aw k N M P S t e,v.oneCell'=true:=Dp (cs:=[.int .u8 k,.int .i64 N,.int .i64 M,.int .i64 P,.int .u32 S,t,.int .i64 e]) (by simp[h];exact⟨rfl,rfl,rfl,rfl,rfl,rfl⟩)
def D9(ho:o.op=.build 134 #[(0,x)])(hx:a.eval x=.int .i64 k):(execOp a.eval o).run prog w=.ok (.value (.agg (PT k))) w:=
 Dq ho Ip
def MN(ho:o.op=.build 76 #[(0,x),(4,y)])(hx:a.eval x=.int .u8 k)(hy:a.eval y=.int .i64 e):(execOp a.eval o).run prog w=.ok (.value (.agg (aw k 0 0 0 0 (.slice none 0 0) e))) w:=
 Dq ho GV
def Tj(ho:o.op=.build 76 #[(0,x)])(hx:a.eval x=.int .u8 k):(execOp a.eval o).run prog w=.ok (.value (.agg (aw k 0 0 0 0 (.slice none 0 0) 0))) w:=
 Dq ho Ip
def iG:ak 77 #[] w (RB w (.agg (PT 1))):=by
 go_enter func77,ntmps77;exact mj
def WW:ak 79 #[] w (RB w (.agg (PT 2))):=by
 go_enter func79,ntmps79;exact mj
def WV:ak 81 #[] w (RB w (.agg (PT 3))):=by
 go_enter func81,ntmps81;exact mj
def iF:ak 83 #[] w (RB w (.agg (PT 4))):=by
 go_enter func83,ntmps83;exact mj
def OS:ak 85 #[] w (RB w (.agg (PT 5))):=by
 go_enter func85,ntmps85;exact mj
def WU:ak 87 #[] w (RB w (.agg (PT 6))):=by
 go_enter func87,ntmps87;exact mj
def iD:ak 89 #[] w (RB w (.agg (PT 7))):=by
 go_enter func89,ntmps89;exact mj
def iC:ak 91 #[] w (RB w (.agg (PT 8))):=by
 go_enter func91,ntmps91;exact mj
def U0{er:ai}{v:NY}(h:er.size=1):er.setIfInBounds 0 v=#[v]:=by
 apply uf
 .simp[h]
 .intro i h1 h2;have:i=0:=by simp at h2;omega
  subst this;simp
def Gf{gp:Nat}{ts er:ai}(e:Int)(rs:ae)(hm:Own w0 w ((gp,PR pt hs ms ts cs ds er)::rs) ss)(hz:aq pt hs ms ts cs ds er):ak 125 #[gp,.int .i64 e] w (RO (.tuple #[.agg (aw 8 0 0 0 0 (.slice none 0 0) e),.bool true]) w0 ((gp,PR (PT 8) hs ms ts cs ds (ER e))::rs) ss):=by
 have HZ:=aa hz;have HZ2:Hid (aq (PT 8) hs ms ts cs ds er):=aa (hz.tA rfl);have HER:Hid ((er.setIfInBounds 0 (.int .i64 e))=ER e):=aa (U0 hz.er);clear hz;go_enter func125,ntmps125
 go_wp2_with(first
 |go_at_call 91;refine cB iC hm ?_;clear hm;intro w1 hm
 |with_reducible refine cS ?_;(refine A8 rfl (MN rfl rfl rfl) ?_)
 |with_reducible refine bE (t:=134) ?_;(refine Ad rfl (Aj 1 hm rfl rfl (Ac rfl) rfl Cm KN Ei (Eh HZ.o rfl) ?_);clear hm;intro w hm;try simp only[puts,s2,List.set]at hm)
 |with_reducible refine wc 25 1 hm ?_ (hf:=(by with_unfolding_all rw[Bg HZ2.o];decide)) (hn:=al (qc HZ2.o (i:=0) FU));clear hm;intro w hm
 |refine UV ?_;try(clear hm;intro w gp hm))
 rw[HER.o]at hm;exact xV
end
section
variable{cs ds hs ms pt tmps:ai}{e:Bool}{used:Int}{ss:O1}{gr:Nat}{g p q:O9}{P:O8}{rs:ae}{ty:O4}{w w0:FC}
def Own.bM{X:ae}(h:Own w0 w (g::p::q::(X++rs)) ss):Own w0 w (q::(X++(p::g::rs))) ss:=h.perm ((jr q ((jo).trans (jr p jo))).trans ((fM p q _).trans (((fM g q _).cons p).trans (fM g p _))))
def Own.Nh{X:ae}(h:Own w0 w (q::(X++(p::g::rs))) ss):Own w0 w (g::p::q::(X++rs)) ss:=h.perm (List.Perm.symm ((jr q ((jo).trans (jr p jo))).trans ((fM p q _).trans (((fM g q _).cons p).trans (fM g p _)))))
def Qj{fn:Func}{p t u:Tmp}(h:fn.results=#[.tmp t,.cell p ty,.tmp u]){g:Nat}(hp:tmps.getD p undef=.pointer g)(hr:AA w g cs)(ht:Aq P ty cs.size):(results fn tmps).run P w=.ok (.tuple #[tmps.getD t undef,.agg cs,tmps.getD u undef]) w:=by
 have hp':tmps[p]?.getD undef=.pointer g:=by simpa using hp
 simp[results,h,hp',asAddr,Ec hr ht]
def A5H{gp:Nat}{ts er:ai}{X:ae}{v:NY}(l:ac)(bit:Nat){W:Nat}(rs:ae)(hm:Own w0 w ((gp,PR pt hs ms ts cs ds er)::(gr,RD v bit used e)::(X++rs)) ss)(hz:aq pt hs ms ts cs ds er)(ht:Tail X v l)(hl:l.length<=100000000)(hb:bit<=7)(hW:W<=8)(hW1:1<=W)(hu0:0<=used)(hu1:used<=100000000000)(hf:8*l.length<bit+W)(he:e=false):ak 124 #[gp,gr,.int .i64 W] w (RO (.tuple #[.int .u32 0,.agg (aw 1 0 0 0 0 (.slice none 0 0) 0),.bool false]) w0 ((gp,PR pt hs ms ts cs ds er)::(gr,RD v bit used e)::(X++rs)) ss):=by
 subst he;have CT:Hid (∀W0 g,Own w0 W0 (g::(gp,PR pt hs ms ts cs ds er)::(gr,RD v bit used false)::(X++rs)) ss->ak 166 #[gr,.int .i64 W] W0 (RO (.tuple #[.int .u32 0,.bool false]) w0 (g::(gp,PR pt hs ms ts cs ds er)::(gr,RD v bit used false)::(X++rs)) ss)):=λW0 g h=>(nY ((gp,PR pt hs ms ts cs ds er)::g::rs) h.bM ht hl hb hW hW1 hu0 hu1 hf).mono λx w' h=>⟨h.1,h.2.Nh⟩;have CE:Hid (∀W0 g,Own w0 W0 (g::(gp,PR pt hs ms ts cs ds er)::(gr,RD v bit used false)::(X++rs)) ss->ak 133 #[gr] W0 (RO (.bool false) w0 (g::(gp,PR pt hs ms ts cs ds er)::(gr,RD v bit used false)::(X++rs)) ss)):=λW0 g h=>(jS (X++((gp,PR pt hs ms ts cs ds er)::g::rs)) h.bM).mono λx w' h=>⟨h.1,h.2.Nh⟩;clear hz ht hl hb hu0 hu1 hf;go_enter func124,ntmps124
 go_wp2_with(first
 |go_at_call 166;refine MP (CT.o _ _ hm) ?_;clear hm;intro w hm
 |go_at_call 133;refine MP (CE.o _ _ hm) ?_;clear hm;intro w hm
 |with_reducible refine wa 76 hm BX ?_;clear hm;intro w g hm
 |with_reducible refine cS (t:=76) ?_;(refine A8 rfl (Tj rfl rfl) ?_)
 |refine UV ?_;try(clear hm;intro w gp hm))
 exact Ca
def a0k{gp:Nat}{ts er:ai}{X:ae}{v:NY}(l:ac)(bit:Nat){W:Nat}(rs:ae)(hm:Own w0 w ((gp,PR pt hs ms ts cs ds er)::(gr,RD v bit used e)::(X++rs)) ss)(hz:aq pt hs ms ts cs ds er)(ht:Tail X v l)(hl:l.length<=100000000)(hb:bit<=7)(hW:W<=8)(hW1:1<=W)(hu0:0<=used)(hu1:used<=100000000000)(hf:8*l.length<bit+W)(he:e=true):ak 124 #[gp,gr,.int .i64 W] w (RO (.tuple #[.int .u32 0,.agg (aw 8 0 0 0 0 (.slice none 0 0) 50),.bool false]) w0 ((gp,PR (PT 8) hs ms ts cs ds (ER 50))::(gr,RD v bit used true)::(X++rs)) ss):=by
 subst he;have CT:Hid (∀W0 g,Own w0 W0 (g::(gp,PR pt hs ms ts cs ds er)::(gr,RD v bit used true)::(X++rs)) ss->ak 166 #[gr,.int .i64 W] W0 (RO (.tuple #[.int .u32 0,.bool false]) w0 (g::(gp,PR pt hs ms ts cs ds er)::(gr,RD v bit used true)::(X++rs)) ss)):=λW0 g h=>(nY ((gp,PR pt hs ms ts cs ds er)::g::rs) h.bM ht hl hb hW hW1 hu0 hu1 hf).mono λx w' h=>⟨h.1,h.2.Nh⟩;have CE:Hid (∀W0 g,Own w0 W0 (g::(gp,PR pt hs ms ts cs ds er)::(gr,RD v bit used true)::(X++rs)) ss->ak 133 #[gr] W0 (RO (.bool true) w0 (g::(gp,PR pt hs ms ts cs ds er)::(gr,RD v bit used true)::(X++rs)) ss)):=λW0 g h=>(jS (X++((gp,PR pt hs ms ts cs ds er)::g::rs)) h.bM).mono λx w' h=>⟨h.1,h.2.Nh⟩
 have CW:Hid (∀W0 g,Own w0 W0 (g::(gp,PR pt hs ms ts cs ds er)::(gr,RD v bit used true)::(X++rs)) ss->ak 125 #[gp,.int .i64 50] W0 (RO (.tuple #[.agg (aw 8 0 0 0 0 (.slice none 0 0) 50),.bool true]) w0 (g::(gp,PR (PT 8) hs ms ts cs ds (ER 50))::(gr,RD v bit used true)::(X++rs)) ss)):=λW0 g h=>(Gf 50 (g::(gr,RD v bit used true)::(X++rs)) (h.perm (fM _ _ _)) hz).mono λx w' h=>⟨h.1,h.2.perm (fM _ _ _)⟩;clear hz ht hl hb hu0 hu1 hf;go_enter func124,ntmps124
 go_wp2_with(first
 |go_at_call 166;refine MP (CT.o _ _ hm) ?_;clear hm;intro w hm
 |go_at_call 133;refine MP (CE.o _ _ hm) ?_;clear hm;intro w hm
 |go_at_call 125;refine MP (CW.o _ _ hm) ?_;clear hm;intro w hm
 |with_reducible refine wa 76 hm BX ?_;clear hm;intro w g hm
 |refine UV ?_;try(clear hm;intro w gp hm))
 exact Ca
def ig{gp:Nat}{ts er:ai}{X:ae}{v:NY}(l:ac)(bit W:Nat)(rs:ae)(hm:Own w0 w ((gp,PR pt hs ms ts cs ds er)::(gr,RD v bit used e)::(X++rs)) ss)(hz:aq pt hs ms ts cs ds er)(ht:Tail X v l)(hl:l.length<=100000000)(hb:bit<=7)(hW:W<=8)(hW1:1<=W)(hu0:0<=used)(hu1:used<=100000000000)(hB:Bytes l)(hf:bit+W<=8*l.length):ak 124 #[gp,gr,.int .i64 W] w λx w'=>(x=.returned (.tuple #[.int .u32 (pk l bit W),.agg (aw 0 0 0 0 0 (.slice none 0 0) 0),.bool true]))/\∃v2,Tail X v2 (l.drop ((bit+W)/8))/\Own w0 w' ((gp,PR pt hs ms ts cs ds er)::(gr,RD v2 (((bit+W)%8:Nat):Int) (used+W) e)::(X++rs)) ss:=by
 have CT:Hid (∀W0 g,Own w0 W0 (g::(gp,PR pt hs ms ts cs ds er)::(gr,RD v bit used e)::(X++rs)) ss->ak 166 #[gr,.int .i64 W] W0 λx w'=>(x=.returned (.tuple #[.int .u32 (pk l bit W),.bool true]))/\∃v2,Tail X v2 (l.drop ((bit+W)/8))/\Own w0 w' (g::(gp,PR pt hs ms ts cs ds er)::(gr,RD v2 (((bit+W)%8:Nat):Int) (used+W) e)::(X++rs)) ss):=λW0 g h=>(VU ((gp,PR pt hs ms ts cs ds er)::g::rs) h.bM ht hB hl hb hW hW1 hu0 hu1 hf).mono λx w' h=>by
   obtain⟨h1,v2,h2,h3⟩:=h;exact⟨h1,v2,h2,h3.Nh⟩
 clear hz ht hl hb hu0 hu1 hf hB;generalize pk l bit W=c at*;go_enter func124,ntmps124
 go_wp2_with(first
 |(go_at_call 166;have _t:=hm;refine(CT.o _ _ hm).mono ?_;clear _t hm;rintro x w⟨rfl,v2,ht2,hm⟩)
 |with_reducible refine wa 76 hm BX ?_;clear hm;intro w g hm
 |refine UV ?_;try(clear hm;intro w gp hm))
 refine aD (Qj rfl rfl (hm.row 0 rfl) Dw) rfl ⟨rfl,v2,ht2,hm.dropRow⟩
end
section
variable{PR2 cs ds hs ms pt:ai}{ss:O1}{RR:ae}{pr:NY}{w w0:FC}
def sW{gp:Nat}{ts er:ai}(hm:Own w0 w ((gp,PR pt hs ms ts cs ds er)::RR) ss)(Q:ae->Prop)(k:Int)(e:Int)(CT:Hid (∀W g,Own w0 W (g::(gp,PR pt hs ms ts cs ds er)::RR) ss->ak 124 #[gp,pr,.int .i64 8] W λx w'=>(x=.returned (.tuple #[.int .u32 0,.agg (aw k 0 0 0 0 (.slice none 0 0) e),.bool false]))/\∃RR',Q RR'/\Own w0 w' (g::(gp,PR2)::RR') ss)):ak 78 #[gp,pr] w λx w'=>(x=.returned (.tuple #[.agg (aw k 0 0 0 0 (.slice none 0 0) e),.bool true]))/\∃RR',Q RR'/\Own w0 w' ((gp,PR2)::RR') ss:=by
 go_enter func78,ntmps78
 exact sa
def sV{gp:Nat}{ts er:ai}(hm:Own w0 w ((gp,PR pt hs ms ts cs ds er)::RR) ss)(Q:ae->Prop)(k:Int)(e:Int)(CT:Hid (∀W g,Own w0 W (g::(gp,PR pt hs ms ts cs ds er)::RR) ss->ak 124 #[gp,pr,.int .i64 8] W λx w'=>(x=.returned (.tuple #[.int .u32 0,.agg (aw k 0 0 0 0 (.slice none 0 0) e),.bool false]))/\∃RR',Q RR'/\Own w0 w' (g::(gp,PR2)::RR') ss)):ak 80 #[gp,pr] w λx w'=>(x=.returned (.tuple #[.agg (aw k 0 0 0 0 (.slice none 0 0) e),.bool true]))/\∃RR',Q RR'/\Own w0 w' ((gp,PR2)::RR') ss:=by
 go_enter func80,ntmps80
 exact sa
def sU{gp:Nat}{ts er:ai}(hm:Own w0 w ((gp,PR pt hs ms ts cs ds er)::RR) ss)(Q:ae->Prop)(k:Int)(e:Int)(CT:Hid (∀W g,Own w0 W (g::(gp,PR pt hs ms ts cs ds er)::RR) ss->ak 124 #[gp,pr,.int .i64 1] W λx w'=>(x=.returned (.tuple #[.int .u32 0,.agg (aw k 0 0 0 0 (.slice none 0 0) e),.bool false]))/\∃RR',Q RR'/\Own w0 w' (g::(gp,PR2)::RR') ss)):ak 82 #[gp,pr] w λx w'=>(x=.returned (.tuple #[.agg (aw k 0 0 0 0 (.slice none 0 0) e),.bool true]))/\∃RR',Q RR'/\Own w0 w' ((gp,PR2)::RR') ss:=by
 go_enter func82,ntmps82
 exact sa
def sS{gp:Nat}{ts er:ai}(hm:Own w0 w ((gp,PR pt hs ms ts cs ds er)::RR) ss)(Q:ae->Prop)(k:Int)(e:Int)(CT:Hid (∀W g,Own w0 W (g::(gp,PR pt hs ms ts cs ds er)::RR) ss->ak 124 #[gp,pr,.int .i64 1] W λx w'=>(x=.returned (.tuple #[.int .u32 0,.agg (aw k 0 0 0 0 (.slice none 0 0) e),.bool false]))/\∃RR',Q RR'/\Own w0 w' (g::(gp,PR2)::RR') ss)):ak 84 #[gp,pr] w λx w'=>(x=.returned (.tuple #[.agg (aw k 0 0 0 0 (.slice none 0 0) e),.bool true]))/\∃RR',Q RR'/\Own w0 w' ((gp,PR2)::RR') ss:=by
 go_enter func84,ntmps84
 exact sa
end
section
variable{cs ds ms pt:ai}{M M' V' a a' c e k n n':Int}{ss:O1}{p q r s:O9}{o:Oz}{x y:O7}{RR rs:ae}{pr:NY}{w w0:FC}
def Nc(w:FC):(zeroValue 137).run prog w=.ok (.agg (HS 0 0 0 0)) w:=FZ
def OI{V:Int}:Aq prog 137 (HS a V M n).size:=ag rfl
def XL{V:Int}:∀v∈HS a V M n,v.oneCell'=true:=Dp (cs:=[.int .i64 a,.int .i64 V,.int .i64 M,.int .i64 n]) rfl
def kJ{V:Int}:(HS a V M n).size=4:=rfl
def My{V:Int}:(HS a V M n).size=(HS a' V' M' n').size:=rfl
def ML{a:OA}(ho:o.op=.build 76 #[(0,x),(1,y)])(hx:a.eval x=.int .u8 k)(hy:a.eval y=.int .i64 n):(execOp a.eval o).run prog w=.ok (.value (.agg (aw k n 0 0 0 (.slice none 0 0) 0))) w:=
 Dq ho GV
def vX{gp:Nat}(a V M:Int)(a2 V2 M2:Int)(c0:0<=c)(c1:c<=255){ts er:ai}(hm:Own w0 w ((gp,PR pt (HS a V M 0) ms ts cs ds er)::RR) ss)(Q:ae->Prop)(CT:Hid (∀W g,Own w0 W (g::(gp,PR pt (HS a V M 0) ms ts cs ds er)::RR) ss->ak 124 #[gp,pr,.int .i64 8] W λx w'=>(x=.returned (.tuple #[.int .u32 c,.agg (aw 0 0 0 0 0 (.slice none 0 0) 0),.bool true]))/\∃RR',Q RR'/\Own w0 w' (g::(gp,PR pt (HS a V M 0) ms ts cs ds er)::RR') ss))(CS:Hid (∀w,ak 98 #[.agg (HS a V M 0),.int .u8 c] w (RB w (.tuple #[.agg (HS a2 V2 M2 0),.bool false,.int .i64 0]))))(hz:aq pt (HS a V M 0) ms ts cs ds er):ak 78 #[gp,pr] w λx w'=>(x=.returned (.tuple #[.agg (aw 2 0 0 0 0 (.slice none 0 0) 0),.bool false]))/\∃RR',Q RR'/\Own w0 w' ((gp,PR pt (HS a2 V2 M2 0) ms ts cs ds er)::RR') ss:=by
 have HZ:=aa hz;have w1:IntKind.u8.wrap c=c:=kM _ FP;clear hz c0 c1;go_enter func78,ntmps78
 go_wp2_with(first
 |(go_at_call 124;have _t:=hm;refine(CT.o _ _ hm).mono ?_;clear _t hm CT;rintro x w⟨rfl,RR2,hQ,hm⟩)
 |with_reducible refine wa 76 hm BX ?_;clear hm;intro w g hm
 |with_reducible refine bh (t:=137) ?_;(first|refine A8 rfl (cg 2 hm rfl rfl rfl (Q5 HZ.o) OI (Qa HZ.o)) ?_|refine A8 rfl (eK 0 hm rfl rfl rfl OI) ?_)
 |with_reducible refine bE (t:=137) ?_;(first|refine Ad rfl (Aw 0 hm rfl rfl (Ac rfl) rfl OI My XL ?_);clear hm;intro w hm;try simp only[puts,s2,List.set]at hm|refine Ad rfl (Aj 3 hm rfl rfl (Ac rfl) rfl OI (by rw[Bg HZ.o,kJ];decide) XL (Wp HZ.o rfl) ?_);clear hm;intro w hm;try simp only[puts,s2,List.set]at hm)
 |with_reducible refine cS (t:=76) ?_;(refine A8 rfl (ML rfl rfl rfl) ?_)
 |refine UV ?_;try(clear hm;intro w gp hm))
 exact iz
def a11{gp:Nat}(a V M:Int)(c0:0<=c)(c1:c<=255){ts er:ai}(hm:Own w0 w ((gp,PR pt (HS a V M 0) ms ts cs ds er)::RR) ss)(Q:ae->Prop)(CT:Hid (∀W g,Own w0 W (g::(gp,PR pt (HS a V M 0) ms ts cs ds er)::RR) ss->ak 124 #[gp,pr,.int .i64 8] W λx w'=>(x=.returned (.tuple #[.int .u32 c,.agg (aw 0 0 0 0 0 (.slice none 0 0) 0),.bool true]))/\∃RR',Q RR'/\Own w0 w' (g::(gp,PR pt (HS a V M 0) ms ts cs ds er)::RR') ss))(CS:Hid (∀w,ak 98 #[.agg (HS a V M 0),.int .u8 c] w (RB w (.tuple #[.agg (HS 4 0 0 n),.bool true,.int .i64 0]))))(hz:aq pt (HS a V M 0) ms ts cs ds er):ak 78 #[gp,pr] w λx w'=>(x=.returned (.tuple #[.agg (aw 2 n 0 0 0 (.slice none 0 0) 0),.bool true]))/\∃RR',Q RR'/\Own w0 w' ((gp,PR (PT 2) (HS 4 0 0 n) ms ts cs ds er)::RR') ss:=by
 have HZ:=aa hz;have w1:IntKind.u8.wrap c=c:=kM _ FP;clear hz c0 c1;have HZ2:Hid (aq pt (HS 4 0 0 n) ms ts cs ds er):=aa (HZ.o.hs_ rfl);go_enter func78,ntmps78
 go_wp2_with(first
 |(go_at_call 124;have _t:=hm;refine(CT.o _ _ hm).mono ?_;clear _t hm CT;rintro x w⟨rfl,RR2,hQ,hm⟩)
 |go_at_call 79;refine cB WW hm ?_;clear hm;intro w1 hm
 |with_reducible refine wa 76 hm BX ?_;clear hm;intro w g hm
 |with_reducible refine bh (t:=137) ?_;(first|refine A8 rfl (cg 2 hm rfl rfl rfl (Q5 HZ.o) OI (Qa HZ.o)) ?_|refine A8 rfl (eK 0 hm rfl rfl rfl OI) ?_)
 |with_reducible refine bE (t:=137) ?_;(first|refine Ad rfl (Aw 0 hm rfl rfl (Ac rfl) rfl OI My XL ?_);clear hm;intro w hm;try simp only[puts,s2,List.set]at hm|refine Ad rfl (Aj 3 hm rfl rfl (Ac rfl) rfl OI (by rw[Bg HZ.o,kJ];decide) XL (Wp HZ.o rfl) ?_);clear hm;intro w hm;try simp only[puts,s2,List.set]at hm)
 |with_reducible refine bE (t:=134) ?_;(refine Ad rfl (Aj 3 hm rfl rfl (Ac rfl) rfl Cm (by rw[Bg HZ2.o];decide) Ei (Eh HZ2.o rfl) ?_);clear hm;intro w hm;try simp only[puts,s2,List.set]at hm)
 |with_reducible refine cS (t:=76) ?_;(refine A8 rfl (ML rfl rfl rfl) ?_)
 |refine UV ?_;try(clear hm;intro w gp hm))
 exact iz
def Own.z7(h:Own w0 w (s::p::q::r::rs) ss):Own w0 w (p::q::r::s::rs) ss:=h.perm (jo (l₁:=[p,q,r]))
def nG{gp:Nat}(a V M:Int)(c0:0<=c)(c1:c<=255){ts er:ai}(hm:Own w0 w ((gp,PR pt (HS a V M 0) ms ts cs ds er)::RR) ss)(Q:ae->Prop)(CT:Hid (∀W g,Own w0 W (g::(gp,PR pt (HS a V M 0) ms ts cs ds er)::RR) ss->ak 124 #[gp,pr,.int .i64 8] W λx w'=>(x=.returned (.tuple #[.int .u32 c,.agg (aw 0 0 0 0 0 (.slice none 0 0) 0),.bool true]))/\∃RR',Q RR'/\Own w0 w' (g::(gp,PR pt (HS a V M 0) ms ts cs ds er)::RR') ss))(CS:Hid (∀w,ak 98 #[.agg (HS a V M 0),.int .u8 c] w (RB w (.tuple #[.agg (HS 0 0 0 0),.bool false,.int .i64 e]))))(hz:aq pt (HS a V M 0) ms ts cs ds er)(he:e≠0):ak 78 #[gp,pr] w λx w'=>(x=.returned (.tuple #[.agg (aw 8 0 0 0 0 (.slice none 0 0) e),.bool true]))/\∃RR',Q RR'/\Own w0 w' ((gp,PR (PT 8) (HS a V M 0) ms ts cs ds (ER e))::RR') ss:=by
 have HZ:=aa hz;have w1:IntKind.u8.wrap c=c:=kM _ FP;clear hz c0 c1;have CW:Hid (∀{W}{g9 g7 g:O9}{RR2},Own w0 W (g9::g7::g::(gp,PR pt (HS a V M 0) ms ts cs ds er)::RR2) ss->ak 125 #[gp,.int .i64 e] W (RO (.tuple #[.agg (aw 8 0 0 0 0 (.slice none 0 0) e),.bool true]) w0 (g9::g7::g::(gp,PR (PT 8) (HS a V M 0) ms ts cs ds (ER e))::RR2) ss)):=λh=>(Gf e _ (h.front 3 rfl) HZ.o).mono λx w' h=>⟨h.1,h.2.z7⟩;have q1:(e !=0)=true:=by simpa using he
 have q2:(e==0)=false:=by simpa using he
 clear he;go_enter func78,ntmps78
 go_wp2_with(first
 |(go_at_call 124;have _t:=hm;refine(CT.o _ _ hm).mono ?_;clear _t hm CT;rintro x w⟨rfl,RR2,hQ,hm⟩)
 |go_at_call 125;refine MP (CW.o hm) ?_;clear hm;intro w hm
 |(with_reducible first|refine wa 76 hm BX ?_;clear hm;intro w g hm|refine wa 137 hm Nc ?_;clear hm;intro w g9 hm)
 |with_reducible refine bh (t:=137) ?_;((refine A8 rfl (cg 2 hm rfl rfl rfl (Q5 HZ.o) OI (Qa HZ.o)) ?_))
 |refine UV ?_;try(clear hm;intro w gp hm))
 exact iz
end
def turn(was now way:Int):Bool:=if way=0 then decide (was=now)else if way=1 then decide (was<now)else decide (now<was)
def aO(x y z:Int)(w:FC):ak 212 #[.int .i64 x,.int .i64 y,.int .i64 z] w (RW w (.bool (turn x y z))):=by
 rw[turn];by_cases h0:z=0
 .subst h0;rw[aQ rfl];cases hq:decide (x=y)
  all_goals
   have hq':(x==y)=decide (x=y):=rfl;rw[hq]at hq';clear hq;exact xG
 rw[aP h0];have q0:(z==0)=false:=by simpa using h0
 by_cases h1:z=1
 .subst h1;rw[aQ rfl];clear h0 q0;cases hq:decide (x<y)
  all_goals
   exact xG
 rw[aP h1];have q1:(z==1)=false:=by simpa using h1
 clear h0 h1;cases hq:decide (y<x)
 all_goals
  exact xG
def Known(l:ac)(s:Int):Prop:=∀k:Nat,k<258->0<=gi l k/\gi l k<=15/\(s<=k->gi l k=0)
def Oa{l:ac}(s b n d:Int)(w0:FC)(hl:l.length=258)(hk:Known l s):ak 211 #[.agg (TS l s b n d)] w0 (RB w0 (.bool true)):=by
 have HL:=aa hl;have HK:=aa hk;clear hk hl;go_enter func211,ntmps211;have hm:=Own.nil w0
 go_wp2_with(first
 |with_reducible refine wb hm ?_;clear hm;intro w g hm
 |refine A8 rfl (cg 0 hm rfl rfl rfl (Jv HL.o) (F5 HL.o) (L9 HL.o)) ?_
 |refine UV ?_;try(clear hm;intro w gp hm))
 go_loopw[7] (λu wr=>∃k:Nat,k<=258/\u=.int .i64 k/\Own w0 wr [(g,TS l s b n d)] []) (λu _=>258-(intOf u).toNat)
 case atStart=>exact⟨0,FP,rfl,hm⟩
 case round=>
  clear hm;obtain⟨k,hk,rfl,hm⟩:=hrel;by_cases hlt:k<258
  .have hg:(J .u8 l)[k]?=some (.int .u8 (gi l k)):=XC .u8 l k JF;obtain⟨hx0,hx1,hx2⟩:=HK.o k hlt;have q1:decide (15<gi l k)=false:=an;by_cases hs:s<=k
   .have q2:decide (s<=(k:Int))=true:=aW hs;rw[hx2 hs]at hg;clear hx0 hx1 hx2 q1 hs
    exact Kl
   .have q2:decide (s<=(k:Int))=false:=aU hs;clear hx0 hx1 hx2 hs;generalize gi l k=x at*
    exact Kl
  .obtain rfl:k=258:=FP
   go_wp2;go_ret;exact cL
structure TT where
 l:ac
 s:Int
 b:Int
 n:Int
 d:Int
def TT.v(t:TT):ai:=TS t.l t.s t.b t.n t.d
def TT.next(t:TT)(bit:Int):TT×Bool:=
 if t.b<4 then(⟨t.l,t.s,t.b+1,2*t.n+bit,t.d⟩,true)
 else if t.b=4 then if bit=0 then(⟨t.l.set t.s.toNat t.n,t.s+1,t.b,t.n,0⟩,decide (t.s+1<258)||JL (t.l.set t.s.toNat t.n))else(⟨t.l,t.s,5,t.n,t.d⟩,true)
 else if bit=0 then(⟨t.l,t.s,4,t.n+1,1⟩,decide (t.d≠2/\t.n<15))else(⟨t.l,t.s,4,t.n-1,2⟩,decide (t.d≠1/\0<t.n))
structure TT.ok(t:TT):Prop where
 len:t.l.length=258
 sym:0<=t.s/\t.s<258
 bit:0<=t.b/\t.b<=5
 now:0<=t.n/\t.n<=15
 way:0<=t.d/\t.d<=2
 known:Known t.l t.s
 first:t.b<4->t.s=0/\t.d=0/\t.l=Hf/\t.n<2^t.b.toNat
 zero:t.s=0->t.d=1->0<t.n
 zero2:t.s=0->t.d=2->t.n<15
 turn:0<t.s->turn (gi t.l (t.s.toNat-1)) t.n t.d=true
section
variable{a:OA}{b b' bit c d' n n' s s':Int}{l m:ac}{w0:FC}
def Ce{d:Int}(h:l.length=258)(k:m.length=258):(TS l s b n d).size=(TS m s' b' n' d').size:=by rw[Dy h,Dy k]
def UU{v:NY}:a.eval (.const v)=v:=rfl
def bY(h0:0<=n)(h1:n<4611686018427387904)(c0:0<=c)(c1:c<=1):bits .or .i64 (n*2) c=2*n+c:=by
 rw[show 2*n+c=n*2+c by omega];exact rW .i64 63 FU (λn h0 h1=>aZ n FP) 1 (n*2) c FP G5 FP c0 FP FP
def dH(b:Int){d:Int}(hl:l.length=258)(hb:b=0\/b=1\/b=2\/b=3)(n0:0<=n)(n1:n<=15)(h0:0<=bit)(h1:bit<=1):ak 144 #[.agg (TS l s b n d),.int .i64 bit] w0 (RB w0 (.tuple #[.agg (TS l s (b+1) (2*n+bit) d),.bool true])):=by
 have HL:=aa hl;clear hl;have e1:bits .or .i64 (n*2) bit=2*n+bit:=bY n0 FP h0 h1;have w1:IntKind.i64.wrap (n*2)=n*2:=av;have q:decide (b<4)=true:=az;have w2:IntKind.i64.wrap (b+1)=b+1:=av;clear n0 n1 h0 h1 hb;go_enter func144,ntmps144;have hm:=Own.nil w0
 go_wp2_with(first
 |with_reducible refine wl 3 1 hm ?_ (hv:=(by with_unfolding_all (first|exact(Cb HL.o)|exact(yt HL.o))))
 |with_reducible refine aM 141 1 hm ?_ (ht:=al (Bq HL.o))
 |with_reducible refine wc 3 1 hm ?_ (hf:=(by with_unfolding_all (first|exact(Es HL.o)|exact(JX HL.o)))) (hn:=(by with_unfolding_all (first|exact(GY HL.o)|exact(IE HL.o))));clear hm;intro w hm
 |with_reducible refine ws 141 0 hm ?_ (ht:=al (Bq HL.o)) (hs:=al (Ce HL.o Az)) (h1:=al Di);clear hm;intro w hm
 |refine UV ?_;try(clear hm;intro w gp hm))
 exact zv
def mg(b:Int){d:Int}(bit:Int)(hl:l.length=258)(hb:b=4)(hbit:bit=1):ak 144 #[.agg (TS l s b n d),.int .i64 bit] w0 (RB w0 (.tuple #[.agg (TS l s 5 n d),.bool true])):=by
 have HL:=aa hl;clear hl;subst hb hbit;go_enter func144,ntmps144;have hm:=Own.nil w0
 go_wp2_with(first
 |(with_reducible first|refine wl 3 1 hm ?_ (hv:=al (Cb HL.o))|refine aM 141 1 hm ?_ (ht:=al (Bq HL.o)))
 |with_reducible refine bE (t:=3) ?_;((refine Ad rfl (AZ 1 hm rfl rfl UU rfl (ot rfl) (by exact(Es HL.o)) rfl rfl (by exact(GY HL.o)) ?_);clear hm;intro w hm;try simp only[puts,s2,List.set]at hm))
 |with_reducible refine ws 141 0 hm ?_ (ht:=al (Bq HL.o)) (hs:=al (Ce HL.o Az)) (h1:=al Di);clear hm;intro w hm
 |refine UV ?_;try(clear hm;intro w gp hm))
 exact zv
def A0b{d:Int}(bit:Int)(hl:l.length=258)(hb:b=5)(hbit:bit=0)(n0:0<=n)(n1:n<=15):ak 144 #[.agg (TS l s b n d),.int .i64 bit] w0 (RB w0 (.tuple #[.agg (TS l s 4 (n+1) 1),.bool (decide (d≠2/\n<15))])):=by
 have HL:=aa hl;clear hl;subst hb hbit;have w1:IntKind.i64.wrap (n+1)=n+1:=av;clear n0 n1;by_cases hd:d=2
 .subst hd;rw[show decide (2≠(2:Int)/\n<15)=false by simp];exact nD
 have q0:(d==2)=false:=by simpa using hd
 have q0b:(d !=2)=true:=by simpa using hd
 by_cases hc:n<15
 .have q1:decide (n<15)=true:=aW hc;rw[aW ⟨hd,hc⟩];clear hd hc;exact nD
 .have q1:decide (n<15)=false:=aU hc;rw[aU (λh=>hc h.2)];clear hd hc;exact nD
def a0C{d:Int}(bit:Int)(hl:l.length=258)(hb:b=5)(hbit:bit=1)(n0:0<=n)(n1:n<=15):ak 144 #[.agg (TS l s b n d),.int .i64 bit] w0 (RB w0 (.tuple #[.agg (TS l s 4 (n-1) 2),.bool (decide (d≠1/\0<n))])):=by
 have HL:=aa hl;clear hl;subst hb hbit;have w1:IntKind.i64.wrap (n-1)=n-1:=av;clear n0 n1;by_cases hd:d=1
 .subst hd;rw[show decide (1≠(1:Int)/\0<n)=false by simp];exact nD
 have q0:(d==1)=false:=by simpa using hd
 have q0b:(d !=1)=true:=by simpa using hd
 by_cases hc:0<n
 .have q1:decide (0<n)=true:=aW hc;rw[aW ⟨hd,hc⟩];clear hd hc;exact nD
 .have q1:decide (0<n)=false:=aU hc;rw[aU (λh=>hc h.2)];clear hd hc;exact nD
end
section
variable{b n s:Int}{l:ac}{k:Nat}{w0:FC}
def yu{d:Int}(hl:l.length=258)(hk:k<258):k<(TS l s b n d).size:=by rw[Dy hl];omega
def jk(hl:l.length=258)(k:Nat)(n:Int):(l.set k n).length=258:=by rw[cO,hl]
def uo(k:Nat){d:Int}(hl:l.length=258)(hk:k<258)(n0:0<=n)(n1:n<=15)(hs:k+1<258):ak 144 #[.agg (TS l k 4 n d),.int .i64 0] w0 (RB w0 (.tuple #[.agg (TS (l.set k n) (k+1) 4 n 0),.bool true])):=by
 have HL:=aa hl;have HM0:=aa (jk hl k n);have HM:Hid True:=aa trivial;have w1:IntKind.u8.wrap n=n:=kM _ FP;have w2:IntKind.i64.wrap ((k:Int)+1)=(k:Int)+1:=av;have q1:decide ((k:Int)+1<258)=true:=az;clear hl hs n0 n1;go_enter func144,ntmps144;have hm:=Own.nil w0
 go_upto_region 9 with(first
  |with_reducible refine wb hm ?_;clear hm;intro w g hm
  |with_reducible refine na ?_;(with_reducible refine wa _ hm Jz ?_;clear hm;intro w g2 hm)
  |with_reducible refine wl 3 1 hm ?_ (hv:=Ls)
  |(with_reducible refine wc 5 1 hm ?_ (hf:=al (yu HL.o hk)) (hn:=al (aj HL.o hk n));clear hm;intro w hm;have HM:=HM0;have HL:Hid True:=aa trivial)
  |with_reducible refine bE (t:=3) ?_;(first|refine Ad rfl (AZ 1 hm rfl rfl (Ac rfl) rfl (ot rfl) Lu rfl rfl (by exact(ah HM.o)) ?_);clear hm;intro w hm;try simp only[puts,s2,List.set]at hm|refine Ad rfl (AZ 1 hm rfl rfl UU rfl (ot rfl) (by exact(Dz HM.o)) rfl rfl (by exact(GX HM.o)) ?_);clear hm;intro w hm;try simp only[puts,s2,List.set]at hm))
 refine rO hm 9 (.am [(0,true),(1,false),(2,true),(3,false),(4,false),(5,false),(6,true)] (.one 7 (.am [(8,false)] (.brk 9 11 (.am [(10,false)] .done))))) ?_;clear hm;intro w hm;simp only[KT.am];refine km (λW hm=>eK 1 hm rfl rfl rfl (Bq HM.o)) ?_;refine kq ?_;refine km (λW hm=>ld 1 hm rfl rfl rfl (ot rfl) (CJ HM.o)) ?_
 iterate 2 refine kq ?_
 ((refine Bz rfl rfl ?_))
 try simp only[Act.put,s3]
 ((refine D6 rfl rfl ?_))
 try simp only[Act.put,s3]
 refine zH hm rfl rfl ?_
 try simp only[Act.put,s3]
 exact G3
def mD(k:Nat){d:Int}(hl:l.length=258)(hk:k<258)(n0:0<=n)(n1:n<=15)(hb:Bytes l)(hs:k+1=258):ak 144 #[.agg (TS l k 4 n d),.int .i64 0] w0 (RB w0 (.tuple #[.agg (TS (l.set k n) (k+1) 4 n 0),.bool (JL (l.set k n))])):=by
 have HL:=aa hl;have HM0:=aa (jk hl k n);have HM:Hid True:=aa trivial;have w1:IntKind.u8.wrap n=n:=kM _ FP;have w2:IntKind.i64.wrap ((k:Int)+1)=(k:Int)+1:=av;have q1:decide ((k:Int)+1<258)=false:=an;have CT:=aa (λw=>table_any (l.set k n) w HM0.o (λx hx=>by rcases kV hx with h|rfl;exact hb x h;omega));generalize JL (l.set k n)=z at*;clear hl hs n0 n1 hb;go_enter func144,ntmps144;have hm:=Own.nil w0
 go_upto_region 9 with(first
  |with_reducible refine wb hm ?_;clear hm;intro w g hm
  |with_reducible refine na ?_;(with_reducible refine wa _ hm Jz ?_;clear hm;intro w g2 hm)
  |with_reducible refine wl 3 1 hm ?_ (hv:=Ls)
  |(with_reducible refine wc 5 1 hm ?_ (hf:=al (yu HL.o hk)) (hn:=al (aj HL.o hk n));clear hm;intro w hm;have HM:=HM0;have HL:Hid True:=aa trivial)
  |with_reducible refine bE (t:=3) ?_;(first|refine Ad rfl (AZ 1 hm rfl rfl (Ac rfl) rfl (ot rfl) Lu rfl rfl (by exact(ah HM.o)) ?_);clear hm;intro w hm;try simp only[puts,s2,List.set]at hm|refine Ad rfl (AZ 1 hm rfl rfl UU rfl (ot rfl) (by exact(Dz HM.o)) rfl rfl (by exact(GX HM.o)) ?_);clear hm;intro w hm;try simp only[puts,s2,List.set]at hm))
 refine rO hm 9 (.am [(0,true),(1,false),(2,true),(3,false),(4,false),(5,false),(6,true)] (.one 7 (.am [(8,false)] (.brk 9 11 (.am [(10,false)] .done))))) ?_;clear hm;intro w hm;simp only[KT.am];refine km (λW hm=>eK 1 hm rfl rfl rfl (Bq HM.o)) ?_;refine kq ?_;refine km (λW hm=>ld 1 hm rfl rfl rfl (ot rfl) (CJ HM.o)) ?_
 iterate 3 refine kq ?_
 refine km (λW hm=>cg 1 hm rfl rfl rfl (Jv HM.o) (F5 HM.o) (L9 HM.o)) ?_;refine DJ rfl rfl (λK hK=>?_);go_simp;refine cB (CT.o _) hm ?_;clear hm;intro w1 hm;refine hK _ _ ⟨λW=>Own _ W _ _,λ_ h=>h,hm,?_⟩;clear hK K;exact G3
end
def XB{l:ac}(s b n d:Int)(hl:l.length=258)(hb:4<=b)(w:FC):ak 209 #[.agg (TS l s b n d)] w (RB w (.bool false)):=by
 have HL:=aa hl;have CW:Hid (∀w,ak 210 #[.int .i64 b,.int .i64 0,.int .i64 3] w (RW w (.bool false))):=λw=>by have:=JH b 0 3 w;rwa[Ri FP]at this
 clear hl hb;go_enter func209,ntmps209;have hm:=Own.nil w
 go_upto_region 1 with((with_reducible refine wb hm ?_;clear hm;intro w g hm))
 refine rO hm 2 (.am [(0,false),(1,true)] (.brk 2 10 (.am [(3,false),(4,false),(5,true),(6,false),(7,true),(8,false),(9,false)] (.brk 10 22 (.am [(11,false),(12,false),(13,true),(14,false),(15,true),(16,false),(17,true),(18,false),(19,false),(20,false),(21,false)] .done))))) ?_;clear hm;intro w hm;simp only[KT.am];refine kq ?_;refine km (λW hm=>ld 0 hm rfl rfl rfl (ot rfl) (Cb HL.o)) ?_;refine PO rfl rfl (λK hK=>?_);go_simp;refine MW (CW.o _) ?_;refine hK _ _ ⟨λW=>Own _ W _ _,hm,?_⟩;clear hK K;refine kq ?_
 ((refine Bz rfl rfl ?_))
 try simp only[Act.put,s3]
 ((refine D6 rfl rfl ?_))
 try simp only[Act.put,s3]
 ((refine Bz rfl rfl ?_))
 try simp only[Act.put,s3]
 ((refine D6 rfl rfl ?_))
 try simp only[Act.put,s3]
 ((refine Bz rfl rfl ?_))
 try simp only[Act.put,s3]
 ((refine Bz rfl rfl ?_))
 try simp only[Act.put,s3]
 refine xB hm rfl rfl ?_
 try simp only[Act.put,s3]
 iterate 2 refine kq ?_
 ((refine D6 rfl rfl ?_))
 try simp only[Act.put,s3]
 ((refine Bz rfl rfl ?_))
 try simp only[Act.put,s3]
 ((refine D6 rfl rfl ?_))
 try simp only[Act.put,s3]
 ((refine Bz rfl rfl ?_))
 try simp only[Act.put,s3]
 ((refine D6 rfl rfl ?_))
 try simp only[Act.put,s3]
 ((refine Bz rfl rfl ?_))
 try simp only[Act.put,s3]
 ((refine Bz rfl rfl ?_))
 exact y7
def A0K{b n:Int}(hb:b=0\/b=1\/b=2\/b=3)(n0:0<=n)(n1:n<2^b.toNat)(w:FC):ak 209 #[.agg (TS Hf 0 b n 0)] w (RB w (.bool true)):=by
 have HL:=aa Az;have CW:Hid (∀w,ak 210 #[.int .i64 b,.int .i64 0,.int .i64 3] w (RW w (.bool true))):=λw=>by have:=JH b 0 3 w;rwa[Eu FP FP]at this
 have CN:Hid (∀w,ak 210 #[.int .i64 n,.int .i64 0,.int .i64 (2^b.toNat-1)] w (RW w (.bool true))):=λw=>by have:=JH n 0 (2^b.toNat-1) w;rwa[Eu FP FP]at this
 clear n0 n1;rcases hb with rfl|rfl|rfl|rfl
 all_goals
  go_enter func209,ntmps209;have hm:=Own.nil w
  go_upto_region 1 with((with_reducible refine wb hm ?_;clear hm;intro w g hm))
  refine rO hm 2 (.am [(0,false),(1,true)] (.brk 2 10 (.am [(3,false),(4,false),(5,true),(6,false),(7,true),(8,false),(9,false)] (.brk 10 22 (.am [(11,false),(12,false),(13,true),(14,false),(15,true),(16,false),(17,true),(18,false),(19,false),(20,false),(21,false)] .done))))) ?_;clear hm;intro w hm;simp only[KT.am];refine kq ?_;refine km (λW hm=>ld 0 hm rfl rfl rfl (ot rfl) (Cb HL.o)) ?_;refine PO rfl rfl (λK hK=>?_);go_simp;refine MW (CW.o _) ?_;refine hK _ _ ⟨λW=>Own _ W _ _,hm,?_⟩;clear hK K
  iterate 2 refine kq ?_
  refine km (λW hm=>ld 0 hm rfl rfl rfl (ot rfl) (yt HL.o)) ?_;refine kq ?_;refine km (λW hm=>ld 0 hm rfl rfl rfl (ot rfl) (Cb HL.o)) ?_
  ((refine bj rfl rfl (λW=>by go_simp;((rw[aZ _ FP];done))) ?_))
  try simp only[Act.put,s3]
  ((refine bj rfl rfl (λW=>by go_simp;((rw[aZ _ FP];done))) ?_))
  try simp only[Act.put,s3]
  refine PO rfl rfl (λK hK=>?_);go_simp;refine MW (CN.o _) ?_;refine hK _ _ ⟨λW=>Own _ W _ _,hm,?_⟩;clear hK K
  iterate 2 refine kq ?_
  refine km (λW hm=>eK 0 hm rfl rfl rfl (Bq HL.o)) ?_;refine kq ?_;refine km (λW hm=>ld 0 hm rfl rfl rfl (ot rfl) (Cb HL.o)) ?_;refine kq ?_;refine km (λW hm=>ld 0 hm rfl rfl rfl (ot rfl) (yt HL.o)) ?_
  ((refine bj rfl rfl (λW=>UQ rfl rfl rfl) ?_))
  try simp only[Act.put,s3]
  ((refine bj rfl rfl (λW=>dZ rfl rfl rfl HL.o) ?_))
  exact y7
section
variable{b n s:Int}{l:ac}{k:Nat}{w0:FC}
def XQ(hb:b=0\/b=1\/b=2\/b=3)(n0:0<=n)(n1:n<2^b.toNat):ak 167 #[.agg (TS Hf 0 b n 0)] w0 (RB w0 (.bool true)):=by
 have CB:=aa (λw=>A0K hb n0 n1 w);have HL:=aa Az;clear hb n0 n1;go_enter func167,ntmps167;have hm:=Own.nil w0
 exact te
def a1c{d:Int}(hl:l.length=258)(hb:b=4\/b=5)(hs:s=0)(n0:0<=n)(n1:n<=15)(hk:Known l s)(hd:d=0):ak 167 #[.agg (TS l s b n d)] w0 (RB w0 (.bool true)):=by
 have CB:=aa (λw=>XB s b n d hl FP w);have CK:=aa (λw=>Oa s b n d w hl hk);have HL:=aa hl;have w1:wi b 4 5=true:=Eu FP FP;have w2:wi s 0 258=true:=Eu FP FP;have w3:wi n 0 15=true:=Eu n0 n1;have w4:wi d 0 2=true:=Eu FP FP;subst hs hd;clear hb n0 n1 hk hl;exact Mp
def qI{d:Int}(hl:l.length=258)(hb:b=4\/b=5)(hs:s=0)(n0:0<=n)(n1:n<=15)(hk:Known l s)(hd:d=1)(hn:0<n):ak 167 #[.agg (TS l s b n d)] w0 (RB w0 (.bool true)):=by
 have CB:=aa (λw=>XB s b n d hl FP w);have CK:=aa (λw=>Oa s b n d w hl hk);have HL:=aa hl;have w1:wi b 4 5=true:=Eu FP FP;have w2:wi s 0 258=true:=Eu FP FP;have w3:wi n 0 15=true:=Eu n0 n1;have w4:wi d 0 2=true:=Eu FP FP;have q:decide (0<n)=true:=aW hn;subst hs hd;clear hb n0 n1 hk hl hn;exact Mp
def qH{d:Int}(hl:l.length=258)(hb:b=4\/b=5)(hs:s=0)(n0:0<=n)(n1:n<=15)(hk:Known l s)(hd:d=2)(hn:n<15):ak 167 #[.agg (TS l s b n d)] w0 (RB w0 (.bool true)):=by
 have CB:=aa (λw=>XB s b n d hl FP w);have CK:=aa (λw=>Oa s b n d w hl hk);have HL:=aa hl;have w1:wi b 4 5=true:=Eu FP FP;have w2:wi s 0 258=true:=Eu FP FP;have w3:wi n 0 15=true:=Eu n0 n1;have w4:wi d 0 2=true:=Eu FP FP;have q:decide (n<15)=true:=aW hn;subst hs hd;clear hb n0 n1 hk hl hn;go_enter func167,ntmps167;have hm:=Own.nil w0
 go_wp2_with(first
 |go_at_call 209;refine cB (CB.o _) hm ?_;clear hm;intro w1 hm
 |go_at_call 211;refine cB (CK.o _) hm ?_;clear hm;intro w1 hm
 |go_at_call 210;refine MW (JH _ _ _ _) ?_
 |with_reducible refine wl 3 0 hm ?_ (hv:=LH)
 |with_reducible refine aM 141 0 hm ?_ (ht:=al (Bq HL.o))
 |refine UV ?_;try(clear hm;intro w gp hm))
 go_ret;exact cL
def kP{d:Int}(hl:l.length=258)(hb:b=4\/b=5)(hk0:k+1<258)(n0:0<=n)(n1:n<=15)(d0:0<=d/\d<=2)(hk:Known l (k+1))(ht:turn (gi l k) n d=true):ak 167 #[.agg (TS l (k+1) b n d)] w0 (RB w0 (.bool true)):=by
 have CB:=aa (λw=>XB (k+1) b n d hl FP w);have CK:=aa (λw=>Oa (k+1) b n d w hl hk);have HL:=aa hl;have w1:wi b 4 5=true:=Eu FP FP;have w2:wi (k+1) 0 258=true:=Eu FP FP;have w3:wi n 0 15=true:=Eu n0 n1;have w4:wi d 0 2=true:=Eu FP FP;have q1:((k:Int)+1==0)=false:=by simp;omega
 have q2:((k:Int)+1==258)=false:=by simp;omega
 have e1:IntKind.i64.wrap ((k:Int)+1-1)=k:=by rw[aZ _ FP];omega
 have CT:Hid (∀w,ak 212 #[.int .i64 (gi l k),.int .i64 n,.int .i64 d] w (RW w (.bool true))):=λw=>by have:=aO (gi l k) n d w;rwa[ht]at this
 have hk1:k<258:=FP
 have hx:=(hk k hk1).1;have e2:IntKind.i64.wrap (gi l k)=gi l k:=aZ _ (by have:=(hk k hk1).2;omega);have HG:=aa (U4 (s:=(k:Int)+1) (b:=b) (n:=n) (d:=d) hl hk1);clear hb n0 n1 hk hl hk0 ht d0;generalize gi l k=x at*;go_enter func167,ntmps167;have hm:=Own.nil w0
 go_upto_region 10 with(first
  |go_at_call 209;refine cB (CB.o _) hm ?_;clear hm;intro w1 hm
  |go_at_call 211;refine cB (CK.o _) hm ?_;clear hm;intro w1 hm
  |go_at_call 210;refine MW (JH _ _ _ _) ?_
  |with_reducible refine wb hm ?_;clear hm;intro w g hm
  |with_reducible refine wl 3 0 hm ?_ (hv:=LH)
  |with_reducible refine aM 141 0 hm ?_ (ht:=al (Bq HL.o))
   )
 refine rO hm 11 (.am [(0,false),(1,true),(2,false),(3,false),(4,false),(5,true),(6,false),(7,false),(8,true),(9,false),(10,true)] (.brk 11 13 (.am [(12,false)] .done))) ?_;clear hm;intro w hm;simp only[KT.am];refine kq ?_;refine km (λW hm=>ld 0 hm rfl rfl rfl (ot rfl) (CJ HL.o)) ?_
 refine bj rfl rfl (λW=>by go_simp;((rw[aZ _ FP];done))) ?_
 try simp only[Act.put,s3]
 refine kq ?_
 refine bj rfl rfl (λW=>by go_simp;rw[aQ FP]) ?_
 try simp only[Act.put,s3]
 refine km (λW hm=>ld 0 hm rfl rfl rfl (ot rfl) HG.o) ?_
 iterate 2 refine kq ?_
 refine km (λW hm=>ld 0 hm rfl rfl rfl (ot rfl) (yt HL.o)) ?_;refine kq ?_;refine km (λW hm=>ld 0 hm rfl rfl rfl (ot rfl) (E8 HL.o)) ?_;refine PO rfl rfl (λK hK=>?_);go_simp;refine MW (CT.o _) ?_;refine hK _ _ ⟨λW=>Own _ W _ _,hm,?_⟩;clear hK K;refine kq ?_;refine Ba ?_;go_simp;go_wp2;go_ret;exact cL
end
def Rk{k n d:Int}(h:turn k n d=true)(d0:0<=d)(d1:d<=2):d=0/\k=n\/d=1/\k<n\/d=2/\n<k:=by
 have:d=0\/d=1\/d=2:=FP
 rcases this with rfl|rfl|rfl<;>simp[turn]at h<;>omega
def dK{t:TT}(h:t.ok)(w:FC):ak 167 #[.agg t.v] w (RB w (.bool true)):=by
 obtain⟨l,s,b,n,d⟩:=t;obtain⟨hl,hs,hb,hn,hd,hk,hf,hz1,hz2,ht⟩:=h;simp only[TT.v]at*;by_cases h4:b<4
 .obtain⟨rfl,rfl,rfl,hp⟩:=hf h4;exact XQ FP hn.1 hp
 by_cases h0:s=0
 .have:d=0\/d=1\/d=2:=FP
  rcases this with rfl|rfl|rfl
  .exact a1c hl FP h0 hn.1 hn.2 hk rfl
  .exact qI hl FP h0 hn.1 hn.2 hk rfl (hz1 h0 rfl)
  .exact qH hl FP h0 hn.1 hn.2 hk rfl (hz2 h0 rfl)
 .obtain⟨k,rfl⟩:∃k:Nat,s=(k:Int)+1:=⟨(s-1).toNat,FP⟩;have ht:=ht FP;rw[show((k:Int)+1).toNat-1=k by omega]at ht;exact kP hl FP FP hn.1 hn.2 hd (by exact_mod_cast hk) ht
def Ex{t:TT}(bit:Int)(h:t.ok)(h0:0<=bit)(h1:bit<=1)(w:FC):ak 144 #[.agg t.v,.int .i64 bit] w (RB w (.tuple #[.agg (t.next bit).1.v,.bool (t.next bit).2])):=by
 obtain⟨l,s,b,n,d⟩:=t;obtain⟨hl,hs,hb,hn,hd,hk,hf,hz1,hz2,ht⟩:=h;simp only[TT.v,TT.next]at*;by_cases h4:b<4
 .rw[aQ h4];exact dH b hl FP hn.1 hn.2 h0 h1
 rw[aP h4];have hbit:bit=0\/bit=1:=FP
 by_cases h5:b=4
 .subst h5;rw[aQ rfl];rcases hbit with rfl|rfl
  .rw[aQ rfl];obtain⟨k,rfl⟩:∃k:Nat,s=(k:Int):=⟨s.toNat,FP⟩;rw[gB];by_cases hl1:k+1<258
   .have e:decide ((k:Int)+1<258)=true:=az;rw[e,Bool.true_or];exact uo k hl FP hn.1 hn.2 hl1
   .have e:decide ((k:Int)+1<258)=false:=an;rw[e,yT];refine mD k hl FP hn.1 hn.2 (λx hx=>?_) FP;obtain⟨i,hi,rfl⟩:=zf.1 hx;have:=hk i FP;rw[BZ l i hi]at this;omega
  .rw[aP FU];exact mg 4 1 hl rfl rfl
 .rw[aP h5];rcases hbit with rfl|rfl
  .rw[aQ rfl];exact A0b 0 hl FP rfl hn.1 hn.2
  .rw[aP FU];exact a0C 1 hl FP rfl hn.1 hn.2
def kR(x:Int):turn x x 0=true:=by simp[turn]
def DY{l:ac}{i j:Nat}{x:Int}(h:i<l.length):gi (l.set i x) j=if j=i then x else gi l j:=by
 simp only[gi,List.getD,mM];by_cases e:i=j
 .subst e;simp[h]
 .rw[aP e,aP (λh=>e h.symm)]
def TT.ok.next{t:TT}{bit:Int}(h:t.ok)(h0:0<=bit)(h1:bit<=1)(hk:(t.next bit).2=true):(t.next bit).1.s<258/\(t.next bit).1.ok\/(t.next bit).1.s=258/\(t.next bit).1.l.length=258/\Bytes (t.next bit).1.l/\JL (t.next bit).1.l=true:=by
 obtain⟨l,s,b,n,d⟩:=t;obtain⟨hl,hs,hb,hn,hd,hkn,hf,hz1,hz2,ht⟩:=h;simp only[TT.next]at*;have hbit:bit=0\/bit=1:=FP
 by_cases h4:b<4
 .rw[aQ h4]at hk⊢;obtain⟨rfl,rfl,rfl,hp⟩:=hf h4;refine .inl ⟨by show(0:Int)<258;omega,hl,hs,?_,?_,hd,hkn,?_,?_,?_,?_⟩
  .simp only;omega
  .exact Lq
  .intro _;refine⟨rfl,rfl,rfl,?_⟩;exact Lq
  .intro _ h;simp at h
  .intro _ h;simp at h
  .intro h;simp at h
 rw[aP h4]at hk⊢;by_cases h5:b=4
 .subst h5;rw[aQ rfl]at hk⊢;rcases hbit with rfl|rfl
  .rw[aQ rfl]at hk⊢;obtain⟨k,rfl⟩:∃k:Nat,s=(k:Int):=⟨s.toNat,FP⟩;rw[gB]at hk⊢;have hkl:k<l.length:=FP
   have hK:Known (l.set k n) ((k:Int)+1):=by
    intro j hj;rw[DY hkl];have:=hkn j hj;by_cases e:j=k
    .rw[aQ e];omega
    .rw[aP e];omega
   have hB:Bytes (l.set k n):=by
    intro x hx;obtain⟨i,hi,rfl⟩:=zf.1 hx;rw[cO]at hi;have:=hK i FP;rw[BZ _ i (by rw[cO];exact hi)]at this;omega
   by_cases hl1:k+1<258
   .refine .inl ⟨by show(k:Int)+1<258;omega,by simp[hl],by simp only;omega,G5,hn,G5,hK,?_,?_,?_,?_⟩
    .intro h;simp at h
    .intro _ h;simp at h
    .intro _ h;simp at h
    .intro _;simp only;rw[show((k:Int)+1).toNat-1=k by omega,DY hkl,aQ rfl];exact kR n
   .have e:decide ((k:Int)+1<258)=false:=an;rw[e,yT]at hk;exact .inr ⟨by show(k:Int)+1=258;omega,by simp[hl],hB,hk⟩
  .rw[aP FU]at hk⊢;exact .inl ⟨hs.2,hl,hs,G5,hn,hd,hkn,λh=>by simp at h,hz1,hz2,ht⟩
 .rw[aP h5]at hk⊢;rcases hbit with rfl|rfl
  .rw[aQ rfl]at hk⊢;have hk:=eF hk;refine .inl ⟨hs.2,hl,hs,G5,by simp only;omega,G5,hkn,λh=>by simp at h,?_,?_,?_⟩
   .intro _ _;simp only;omega
   .intro _ h;simp at h
   .intro hp;have:=Rk (ht hp) hd.1 hd.2;have hlt:gi l (s.toNat-1)<n+1:=FP
    exact aW hlt
  .rw[aP FU]at hk⊢;have hk:=eF hk;refine .inl ⟨hs.2,hl,hs,G5,by simp only;omega,G5,hkn,λh=>by simp at h,?_,?_,?_⟩
   .intro _ h;simp at h
   .intro _ _;simp only;omega
   .intro hp;have:=Rk (ht hp) hd.1 hd.2;have hlt:n-1<gi l (s.toNat-1):=FP
    exact aW hlt
def bz:TT:=⟨Hf,0,0,0,0⟩
def dO(s:Int):Known Hf s:=λk hk=>by
 have:gi Hf k=0:=by rw[BZ Hf k (by rw[Az];exact hk)];exact uU (dF _)
 omega
def XK:bz.ok:=⟨Az,FU,FU,FU,FU,dO 0,λ_=>⟨rfl,rfl,rfl,FU⟩,λ_ h=>by simp[bz]at h,λ_ h=>by simp[bz]at h,λh=>by simp[bz]at h⟩
def dL(l:ac)(s b n d:Int){bit:Int}(l2:ac)(s2 b2 n2 d2:Int){ok:Bool}{w0:FC}(hl:l.length=258)(hl2:l2.length=258)(CV:Hid (∀w,ak 167 #[.agg (TS l s b n d)] w (RB w (.bool true))))(CN:Hid (∀w,ak 144 #[.agg (TS l s b n d),.int .i64 bit] w (RB w (.tuple #[.agg (TS l2 s2 b2 n2 d2),.bool ok]))))(hs:s<258)(hbit:bit=0\/bit=1)(hok:ok=false):ak 126 #[.agg (TS l s b n d),.int .i64 bit] w0 (RB w0 (.tuple #[.agg (TS Hf 0 0 0 0),.bool false,.int .i64 100])):=by
 have HL:=aa hl;have HM:=aa hl2;have q1:(s==258)=false:=by simp;omega
 have q2:bit/2=0:=FP
 clear hl hl2 hs;subst hok;rcases hbit with rfl|rfl
 all_goals
  go_enter func126,ntmps126;have hm:=Own.nil w0
  go_wp2_with(refine UV ?_;try(clear hm;intro w gp hm))
  refine aD (Ae rfl rfl (hm.row 0 rfl) (Bq Az)) rfl ⟨rfl,hm.below⟩
def mV(l:ac)(s b n d:Int){bit:Int}(l2:ac)(s2 b2 n2 d2:Int){ok:Bool}{w0:FC}(hl:l.length=258)(hl2:l2.length=258)(CV:Hid (∀w,ak 167 #[.agg (TS l s b n d)] w (RB w (.bool true))))(CN:Hid (∀w,ak 144 #[.agg (TS l s b n d),.int .i64 bit] w (RB w (.tuple #[.agg (TS l2 s2 b2 n2 d2),.bool ok]))))(hs:s<258)(hbit:bit=0\/bit=1)(hok:ok=true):ak 126 #[.agg (TS l s b n d),.int .i64 bit] w0 (RB w0 (.tuple #[.agg (TS l2 s2 b2 n2 d2),.bool (s2==258),.int .i64 0])):=by
 have HL:=aa hl;have HM:=aa hl2;have q1:(s==258)=false:=by simp;omega
 have q2:bit/2=0:=FP
 clear hl hl2 hs;subst hok;rcases hbit with rfl|rfl
 all_goals
  go_enter func126,ntmps126;have hm:=Own.nil w0
  go_wp2_with(refine UV ?_;try(clear hm;intro w gp hm))
  refine aD (Ae rfl rfl (hm.row 0 rfl) (Bq HM.o)) rfl ⟨rfl,hm.below⟩
def SK{t:TT}(bit:Int)(h:t.ok)(h0:0<=bit)(h1:bit<=1)(w:FC):ak 126 #[.agg t.v,.int .i64 bit] w (RB w (if(t.next bit).2 then .tuple #[.agg (t.next bit).1.v,.bool ((t.next bit).1.s==258),.int .i64 0]else .tuple #[.agg bz.v,.bool false,.int .i64 100])):=by
 have CV:=aa (λw=>dK h w);have CN:=aa (λw=>Ex bit h h0 h1 w)
 have hl2:(t.next bit).1.l.length=258:=by
  obtain⟨l,s,b,n,d⟩:=t;have:=h.len;simp only[TT.next]at*;exact O0
 generalize t.next bit=p at*;obtain⟨t2,ok⟩:=p;cases ok with
|true=>exact mV t.l t.s t.b t.n t.d t2.l t2.s t2.b t2.n t2.d h.len hl2 CV CN h.sym.2 FP rfl
|false=>exact dL t.l t.s t.b t.n t.d t2.l t2.s t2.b t2.n t2.d h.len hl2 CV CN h.sym.2 FP rfl
def Bv(t:TT):ac->Int->ac×Int×Int
|[],_=>(Hf,0,50)
|b::r,i=>if(t.next b).2 then if(t.next b).1.s=258 then((t.next b).1.l,i+1,0)else Bv (t.next b).1 r (i+1)else(Hf,0,100)
def Bin(l:ac):Prop:=∀x∈l,0<=x/\x<=1
def Bin.gi{l:ac}(h:Bin l)(k:Nat)(hk:k<l.length):0<=gi l k/\gi l k<=1:=h _ (by rw[BZ l k hk];exact dF _)
def aC(w:FC):(zeroValue 139).run prog w=.ok (.agg (J .u8 Hf)) w:=FZ
def WC{m l:ac}(h:l.length=258)(k:m.length=258):(J .u8 l).size=(J .u8 m).size:=by rw[Df,Df,h,k]
def a1b{v:NY}{l:ac}{w0:FC}(hv:In .i64 w0 v l)(hb:Bin l)(hn:l.length<=10000000):ak 103 #[v] w0 (RB w0 (.tuple #[.agg (J .u8 (Bv bz l 0).1),.int .i64 (Bv bz l 0).2.1,.int .i64 (Bv bz l 0).2.2])):=by
 obtain⟨ad,cp,rfl,hc⟩:=hv;obtain⟨i3,hE⟩:=nR;have HE:=aa hE;have HC:=aa hc;have HB:=aa hb;clear hE hc hb;go_enter func103,ntmps103;have hm:=Own.nil w0
 go_wp2_with(first
 |(with_reducible first|refine wa 139 hm aC ?_;clear hm;intro w g2 hm|refine wa 141 hm Jz ?_;clear hm;intro w g5 hm))
 go_loopw[12] (λu wr=>∃(k:Nat)(t:TT),k<=l.length/\u=.int .i64 k/\t.ok/\Bv bz l 0=Bv t (l.drop k) k/\Own w0 wr [(g5,t.v),(g2,J .u8 Hf)] []) (λu _=>l.length-(intOf u).toNat)
 case atStart=>exact⟨0,bz,FP,rfl,XK,rfl,hm⟩
 case round=>
  clear hm;obtain⟨k,t,hk,rfl,ht,hR,hm⟩:=hrel;by_cases hlt:k<l.length
  .obtain⟨A,rfl,hA0⟩:=HC.o k hlt;have hA:∀W,Below w0.heap.size w0 W->W.cell? (A.add k)=some (.int .i64 (gi l k)):=λW h=>(h.cell (iK hA0)).trans hA0;have hs:=HB.o.gi k hlt;rw[jg hlt,<-BZ l k hlt,Bv]at hR;have CN:=aa (λw=>Ex (gi l k) ht hs.1 hs.2 w);have hX:=ht.next hs.1 hs.2
   have hl2:(t.next (gi l k)).1.l.length=258:=by
    have:=ht.len;simp only[TT.next];exact O0
   have q1:gi l k/2=0:=FP
   have HT:=aa ht.len;have HR:=aa hR;clear hA0 hR hs;generalize gi l k=x at*;generalize t.next x=p at*;obtain⟨t2,ok⟩:=p;have HM:=aa hl2;have HX:=aa hX;clear hl2 hX ht;obtain⟨l1,s1,b1,n1,d1⟩:=t;obtain⟨l2,s2,b2,n2,d2⟩:=t2;simp only[TT.v]at*;cases ok with
  |false=>
    have hR:=HR.o;rw[aP G5]at hR;have HRR:=aa hR;clear hR HR HX
    go_wp2_with(first
     |go_at_call 144;refine cB (CN.o _) hm ?_;clear hm;intro w1 hm
     |with_reducible refine wa 141 hm Jz ?_;clear hm;intro w g8 hm
     |with_reducible refine cA (t:=124) ?_;(refine A8 rfl (Am rfl HE.o rfl rfl rfl hlt) ?_)
     |with_reducible refine bh (t:=3) ?_;((refine A8 rfl (AU rfl rfl DR (hA _ hm.below)) ?_))
     |(with_reducible first|refine aM 141 0 hm ?_ (ht:=al (Bq HT.o))|refine aM 139 2 hm ?_ (ht:=al (F5 Az))|refine ws 141 0 hm ?_ (ht:=al (Bq HM.o)) (hs:=al (Ce HM.o Az)) (h1:=al Di);clear hm;intro w hm|refine ws 139 2 hm ?_ (ht:=al (F5 Az)) (h1:=al J_one);clear hm;intro w hm))
    refine aD (Ae rfl rfl (hm.row 2 rfl) (F5 Az)) rfl ⟨by rw[HRR.o];rfl,hm.below⟩
  |true =>
    have hX:=HX.o rfl;have hR:=HR.o;rw[aQ rfl]at hR;clear HX HR;by_cases he:s2=258
    .subst he;rw[aQ rfl]at hR;have HRR:=aa hR;clear hR hX;have w1:IntKind.i64.wrap ((k:Int)+1)=(k:Int)+1:=av
     go_wp2_with(first
      |go_at_call 144;refine cB (CN.o _) hm ?_;clear hm;intro w1 hm
      |with_reducible refine wa 141 hm Jz ?_;clear hm;intro w g8 hm
      |with_reducible refine cA (t:=124) ?_;(refine A8 rfl (Am rfl HE.o rfl rfl rfl hlt) ?_)
      |with_reducible refine bh (t:=3) ?_;(first|refine A8 rfl (AU rfl rfl DR (hA _ hm.below)) ?_|refine A8 rfl (ld 1 hm rfl rfl rfl (ot rfl) (CJ HM.o)) ?_)
      |with_reducible refine aM 141 0 hm ?_ (ht:=LG)
      |with_reducible refine bh (t:=139) ?_;((refine A8 rfl (cg 1 hm rfl rfl rfl (Jv HM.o) (F5 HM.o) (L9 HM.o)) ?_))
      |with_reducible (first|refine ws 141 0 hm ?_ (ht:=al (Bq HM.o)) (hs:=al (Ce HM.o Az)) (h1:=al Di)|refine ws 141 1 hm ?_ (ht:=al (Bq HM.o)) (hs:=al (Ce HM.o HT.o)) (h1:=al Di));clear hm;intro w hm
      |with_reducible refine ws 139 2 hm ?_ (ht:=al (F5 HM.o)) (hs:=al (WC HM.o Az)) (h1:=al J_one);clear hm;intro w hm)
     refine aD (Ae rfl rfl (hm.row 2 rfl) (F5 HM.o)) rfl ⟨by rw[HRR.o];rfl,hm.below⟩
    .have q2:(s2==258)=false:=by simpa using he
     rw[aP he]at hR;rcases hX with hX|hX
     .have HX:=aa hX;have HR:=aa hR;clear hX hR he
      go_wp2_with(first
       |go_at_call 144;refine cB (CN.o _) hm ?_;clear hm;intro w1 hm
       |with_reducible refine wa 141 hm Jz ?_;clear hm;intro w g8 hm
       |with_reducible refine cA (t:=124) ?_;(refine A8 rfl (Am rfl HE.o rfl rfl rfl hlt) ?_)
       |with_reducible refine bh (t:=3) ?_;(first|refine A8 rfl (AU rfl rfl DR (hA _ hm.below)) ?_|refine A8 rfl (ld 1 hm rfl rfl rfl (ot rfl) (CJ HM.o)) ?_)
       |with_reducible refine aM 141 0 hm ?_ (ht:=LG)
       |with_reducible (first|refine ws 141 0 hm ?_ (ht:=al (Bq HM.o)) (hs:=al (Ce HM.o Az)) (h1:=al Di)|refine ws 141 1 hm ?_ (ht:=al (Bq HM.o)) (hs:=al (Ce HM.o HT.o)) (h1:=al Di));clear hm;intro w hm
        )
      go_roundw
      case rel=>exact⟨k+1,⟨l2,s2,b2,n2,d2⟩,FP,by go_num,HX.o.2,HR.o,hm.dropRow⟩
      case measure=>simp[intOf];omega
     .exact(he hX.1).elim
  .obtain rfl:l.length=k:=FP
   rw[qC,Bv]at hR;have HRR:=aa hR;clear hR
   go_wp2_with(first
    |(with_reducible first|refine aM 139 1 hm ?_ (ht:=al (F5 Az))|refine ws 139 1 hm ?_ (ht:=al (F5 Az)) (h1:=al J_one);clear hm;intro w hm))
   refine aD (Ae rfl rfl (hm.row 1 rfl) (F5 Az)) rfl ⟨by rw[HRR.o];rfl,hm.below⟩
section
variable{ops:bl}{cs ds pt:ai}{Q:Exit->aJ}{M M' M2 V' V2 a a' a2 c k k' k2 m m' m2 n p p' p2 s s' s2:Int}{t u:KT}{ss:O1}{i:Nat}{o:Oz}{x y:O7}{P:O8}{RR:ae}{pr:NY}{w w0:FC}{S:OE}
def au{j:Nat}{a:OA}(h1:bX P ops Q (.one i t) S a w)(h2:bX P ops Q (.one j u) S a w):bX P ops Q (.two i t j u) S a w:=⟨h1,h2⟩
def FM(w:FC):(zeroValue 88).run prog w=.ok (.agg (MS 0 0 0 0 0 0 0)) w:=FZ
def Gt{V:Int}:Aq prog 88 (MS a V M m p s k).size:=ag rfl
def EH{V:Int}:∀v∈MS a V M m p s k,v.oneCell'=true:=Dp (cs:=[.int .i64 a,.int .i64 V,.int .i64 M,.int .i64 m,.int .i64 p,.int .u32 s,.int .i64 k]) rfl
def JZ{V:Int}:(MS a V M m p s k).size=7:=rfl
def Na{V:Int}:(MS a V M m p s k).size=(MS a' V' M' m' p' s' k').size:=rfl
def Ju:bz.v.size=262:=Dy Az
def yj:Aq prog 141 bz.v.size:=Bq Az
def XJ:∀v∈bz.v,v.oneCell'=true:=Di
def Gy{a:OA}(ho:o.op=.build 76 #[(0,x),(2,y)])(hx:a.eval x=.int .u8 k)(hy:a.eval y=.agg #[.int .i64 m,.int .i64 p,.int .u32 s]):(execOp a.eval o).run prog w=.ok (.value (.agg (aw k 0 m p s (.slice none 0 0) 0))) w:=
 Dq ho GV
def Kr{a:OA}(ho:o.op=.build 141 #[]):(execOp a.eval o).run prog w=.ok (.value (.agg bz.v)) w:=
 Dq ho (by simp only[cM,bZ];kernel_rfl)
def Y6{gp:Nat}{V:Int}(c0:0<=c)(c1:c<=255){ts er:ai}(hm:Own w0 w ((gp,PR pt (HS 4 0 0 n) (MS a V M m p s k) ts cs ds er)::RR) ss)(Q:ae->Prop)(CT:Hid (∀W g,Own w0 W (g::(gp,PR pt (HS 4 0 0 n) (MS a V M m p s k) ts cs ds er)::RR) ss->ak 124 #[gp,pr,.int .i64 8] W λx w'=>(x=.returned (.tuple #[.int .u32 c,.agg (aw 0 0 0 0 0 (.slice none 0 0) 0),.bool true]))/\∃RR',Q RR'/\Own w0 w' (g::(gp,PR pt (HS 4 0 0 n) (MS a V M m p s k) ts cs ds er)::RR') ss))(CS:Hid (∀w,ak 101 #[.int .i64 n,.agg (MS a V M m p s k),.int .u8 c] w (RB w (.tuple #[.agg (MS a2 V2 M2 m2 p2 s2 k2),.bool false,.int .i64 0]))))(hz:aq pt (HS 4 0 0 n) (MS a V M m p s k) ts cs ds er):ak 80 #[gp,pr] w λx w'=>(x=.returned (.tuple #[.agg (aw 0 0 0 0 0 (.slice none 0 0) 0),.bool false]))/\∃RR',Q RR'/\Own w0 w' ((gp,PR pt (HS 4 0 0 n) (MS a2 V2 M2 m2 p2 s2 k2) ts cs ds er)::RR') ss:=by
 have HZ:=aa hz;have w1:IntKind.u8.wrap c=c:=kM _ FP;clear hz c0 c1;go_enter func80,ntmps80
 go_upto_region 4 with(first
  |(go_at_call 124;have _t:=hm;refine(CT.o _ _ hm).mono ?_;clear _t hm CT;rintro x w⟨rfl,RR2,hQ,hm⟩)
  |(with_reducible first|refine wa 76 hm BX ?_;clear hm;intro w g hm|refine ws 76 0 hm ?_ (h1:=al (Ak rfl));clear hm;intro w hm)
   )
 refine rO hm 20 (.am [(0,false),(1,false),(2,false),(3,false),(4,true),(5,false),(6,false),(7,false),(8,true),(9,false),(10,false)] (.two 11 (.am [(12,false),(13,false),(14,false),(15,false)] (.one 16 (.one 17 (.am [(18,false),(19,false)] .done)))) 16 (.one 11 (.am [(12,false),(13,false),(14,false),(15,false)] (.one 17 (.am [(18,false),(19,false)] .done)))))) ?_;clear hm;intro w hm;simp only[KT.am]
 iterate 4 refine kq ?_
 refine km (λW hm=>ld 2 hm rfl rfl rfl (ot rfl) (OM HZ.o (i:=3) rfl)) ?_
 iterate 3 refine kq ?_
 refine km (λW hm=>cg 2 hm rfl rfl rfl (LQ HZ.o) Gt (LW HZ.o)) ?_
 iterate 2 refine kq ?_
 refine au ?_ ?_
 .refine DJ rfl rfl (λK hK=>?_);go_simp;refine cB (CS.o _) hm ?_;clear hm;intro w1 hm;refine hK _ _ ⟨λW=>Own _ W _ _,λ_ h=>h,J7,?_⟩;clear hK K
  iterate 4 refine kq ?_
  refine Bo rfl rfl (Dl hm rfl FM ?_)
  clear hm;intro w g9 hm;refine⟨λW=>Own _ W _ _,λ_ h=>h,hm.dropRow,?_⟩
  try simp only[Act.put,s3]
  refine Bo rfl rfl (Aw 0 hm rfl rfl (Ac rfl) rfl Gt Na EH ?_)
  exact AC
 ·(refine Bo rfl rfl (Dl hm rfl FM ?_))
  clear hm;intro w g9 hm;refine⟨λW=>Own _ W _ _,λ_ h=>h,hm.dropRow,?_⟩
  try simp only[Act.put,s3]
  refine DJ rfl rfl (λK hK=>?_);go_simp;refine cB (CS.o _) hm ?_;clear hm;intro w1 hm;refine hK _ _ ⟨λW=>Own _ W _ _,λ_ h=>h,Jc,?_⟩;clear hK K
  iterate 4 refine kq ?_
  refine Bo rfl rfl (Aw 0 hm rfl rfl (Ac rfl) rfl Gt Na EH ?_)
  exact AC
def YK{gp:Nat}{V:Int}(V2 M2:Int)(k2:Int)(c0:0<=c)(c1:c<=255){ts er:ai}(hm:Own w0 w ((gp,PR pt (HS 4 0 0 n) (MS a V M m p s k) ts cs ds er)::RR) ss)(Q:ae->Prop)(CT:Hid (∀W g,Own w0 W (g::(gp,PR pt (HS 4 0 0 n) (MS a V M m p s k) ts cs ds er)::RR) ss->ak 124 #[gp,pr,.int .i64 8] W λx w'=>(x=.returned (.tuple #[.int .u32 c,.agg (aw 0 0 0 0 0 (.slice none 0 0) 0),.bool true]))/\∃RR',Q RR'/\Own w0 w' (g::(gp,PR pt (HS 4 0 0 n) (MS a V M m p s k) ts cs ds er)::RR') ss))(CS:Hid (∀w,ak 101 #[.int .i64 n,.agg (MS a V M m p s k),.int .u8 c] w (RB w (.tuple #[.agg (MS 4 V2 M2 m2 p2 s2 k2),.bool true,.int .i64 0]))))(hz:aq pt (HS 4 0 0 n) (MS a V M m p s k) ts cs ds er):ak 80 #[gp,pr] w λx w'=>(x=.returned (.tuple #[.agg (aw 3 0 m2 p2 s2 (.slice none 0 0) 0),.bool true]))/\∃RR',Q RR'/\Own w0 w' ((gp,PR (PT 3) (HS 4 0 0 n) (MS 4 V2 M2 m2 p2 s2 k2) bz.v cs ds er)::RR') ss:=by
 have HZ:=aa hz;have w1:IntKind.u8.wrap c=c:=kM _ FP;clear hz c0 c1;have HZ2:Hid (aq pt (HS 4 0 0 n) (MS 4 V2 M2 m2 p2 s2 k2) ts cs ds er):=aa (HZ.o.IS rfl);have HZ3:Hid (aq (PT 3) (HS 4 0 0 n) (MS 4 V2 M2 m2 p2 s2 k2) ts cs ds er):=aa (HZ2.o.tA rfl);go_enter func80,ntmps80
 go_upto_region 4 with(first
  |(go_at_call 124;have _t:=hm;refine(CT.o _ _ hm).mono ?_;clear _t hm CT;rintro x w⟨rfl,RR2,hQ,hm⟩)
  |(with_reducible first|refine wa 76 hm BX ?_;clear hm;intro w g hm|refine ws 76 0 hm ?_ (h1:=al (Ak rfl));clear hm;intro w hm)
   )
 refine rO hm 20 (.am [(0,false),(1,false),(2,false),(3,false),(4,true),(5,false),(6,false),(7,false),(8,true),(9,false),(10,false)] (.two 11 (.am [(12,false),(13,false),(14,false),(15,false)] (.one 16 (.one 17 (.am [(18,false),(19,false)] .done)))) 16 (.one 11 (.am [(12,false),(13,false),(14,false),(15,false)] (.one 17 (.am [(18,false),(19,false)] .done)))))) ?_;clear hm;intro w hm;simp only[KT.am]
 iterate 4 refine kq ?_
 refine km (λW hm=>ld 2 hm rfl rfl rfl (ot rfl) (OM HZ.o (i:=3) rfl)) ?_
 iterate 3 refine kq ?_
 refine km (λW hm=>cg 2 hm rfl rfl rfl (LQ HZ.o) Gt (LW HZ.o)) ?_
 iterate 2 refine kq ?_
 refine au ?_ ?_
 .refine DJ rfl rfl (λK hK=>?_);go_simp;refine cB (CS.o _) hm ?_;clear hm;intro w1 hm;refine hK _ _ ⟨λW=>Own _ W _ _,λ_ h=>h,J7,?_⟩;clear hK K
  iterate 4 refine kq ?_
  refine Bo rfl rfl (Dl hm rfl FM ?_)
  clear hm;intro w g9 hm;refine⟨λW=>Own _ W _ _,λ_ h=>h,hm.dropRow,?_⟩
  try simp only[Act.put,s3]
  refine Bo rfl rfl (Aw 0 hm rfl rfl (Ac rfl) rfl Gt Na EH ?_)
  exact Ow
 ·(refine Bo rfl rfl (Dl hm rfl FM ?_))
  clear hm;intro w g9 hm;refine⟨λW=>Own _ W _ _,λ_ h=>h,hm.dropRow,?_⟩
  try simp only[Act.put,s3]
  refine DJ rfl rfl (λK hK=>?_);go_simp;refine cB (CS.o _) hm ?_;clear hm;intro w1 hm;refine hK _ _ ⟨λW=>Own _ W _ _,λ_ h=>h,Jc,?_⟩;clear hK K
  iterate 4 refine kq ?_
  refine Bo rfl rfl (Aw 0 hm rfl rfl (Ac rfl) rfl Gt Na EH ?_)
  exact Ow
def dJ{gp:Nat}{V:Int}(V2 M2 m2 p2:Int)(k2:Int)(c0:0<=c)(c1:c<=255){ts er:ai}(hm:Own w0 w ((gp,PR pt (HS 4 0 0 n) (MS a V M m p s k) ts cs ds er)::RR) ss)(Q:ae->Prop)(CT:Hid (∀W g,Own w0 W (g::(gp,PR pt (HS 4 0 0 n) (MS a V M m p s k) ts cs ds er)::RR) ss->ak 124 #[gp,pr,.int .i64 8] W λx w'=>(x=.returned (.tuple #[.int .u32 c,.agg (aw 0 0 0 0 0 (.slice none 0 0) 0),.bool true]))/\∃RR',Q RR'/\Own w0 w' (g::(gp,PR pt (HS 4 0 0 n) (MS a V M m p s k) ts cs ds er)::RR') ss))(CS:Hid (∀w,ak 101 #[.int .i64 n,.agg (MS a V M m p s k),.int .u8 c] w (RB w (.tuple #[.agg (MS 6 V2 M2 m2 p2 s2 k2),.bool true,.int .i64 0]))))(hz:aq pt (HS 4 0 0 n) (MS a V M m p s k) ts cs ds er):ak 80 #[gp,pr] w λx w'=>(x=.returned (.tuple #[.agg (aw 6 0 m2 p2 s2 (.slice none 0 0) 0),.bool true]))/\∃RR',Q RR'/\Own w0 w' ((gp,PR (PT 6) (HS 4 0 0 n) (MS 6 V2 M2 m2 p2 s2 k2) ts cs ds er)::RR') ss:=by
 have HZ:=aa hz;have w1:IntKind.u8.wrap c=c:=kM _ FP;clear hz c0 c1;have HZ2:Hid (aq pt (HS 4 0 0 n) (MS 6 V2 M2 m2 p2 s2 k2) ts cs ds er):=aa (HZ.o.IS rfl);go_enter func80,ntmps80
 go_upto_region 4 with(first
  |(go_at_call 124;have _t:=hm;refine(CT.o _ _ hm).mono ?_;clear _t hm CT;rintro x w⟨rfl,RR2,hQ,hm⟩)
  |(with_reducible first|refine wa 76 hm BX ?_;clear hm;intro w g hm|refine ws 76 0 hm ?_ (h1:=al (Ak rfl));clear hm;intro w hm)
   )
 refine rO hm 20 (.am [(0,false),(1,false),(2,false),(3,false),(4,true),(5,false),(6,false),(7,false),(8,true),(9,false),(10,false)] (.two 11 (.am [(12,false),(13,false),(14,false),(15,false)] (.one 16 (.one 17 (.am [(18,false),(19,false)] .done)))) 16 (.one 11 (.am [(12,false),(13,false),(14,false),(15,false)] (.one 17 (.am [(18,false),(19,false)] .done)))))) ?_;clear hm;intro w hm;simp only[KT.am]
 iterate 4 refine kq ?_
 refine km (λW hm=>ld 2 hm rfl rfl rfl (ot rfl) (OM HZ.o (i:=3) rfl)) ?_
 iterate 3 refine kq ?_
 refine km (λW hm=>cg 2 hm rfl rfl rfl (LQ HZ.o) Gt (LW HZ.o)) ?_
 iterate 2 refine kq ?_
 refine au ?_ ?_
 .refine DJ rfl rfl (λK hK=>?_);go_simp;refine cB (CS.o _) hm ?_;clear hm;intro w1 hm;refine hK _ _ ⟨λW=>Own _ W _ _,λ_ h=>h,J7,?_⟩;clear hK K
  iterate 4 refine kq ?_
  refine Bo rfl rfl (Dl hm rfl FM ?_)
  clear hm;intro w g9 hm;refine⟨λW=>Own _ W _ _,λ_ h=>h,hm.dropRow,?_⟩
  try simp only[Act.put,s3]
  refine Bo rfl rfl (Aw 0 hm rfl rfl (Ac rfl) rfl Gt Na EH ?_)
  exact Mx
 ·(refine Bo rfl rfl (Dl hm rfl FM ?_))
  clear hm;intro w g9 hm;refine⟨λW=>Own _ W _ _,λ_ h=>h,hm.dropRow,?_⟩
  try simp only[Act.put,s3]
  refine DJ rfl rfl (λK hK=>?_);go_simp;refine cB (CS.o _) hm ?_;clear hm;intro w1 hm;refine hK _ _ ⟨λW=>Own _ W _ _,λ_ h=>h,Jc,?_⟩;clear hK K
  iterate 4 refine kq ?_
  refine Bo rfl rfl (Aw 0 hm rfl rfl (Ac rfl) rfl Gt Na EH ?_)
  exact Mx
def mQ{gp:Nat}{V:Int}(c0:0<=c)(c1:c<=255){ts er:ai}(hm:Own w0 w ((gp,PR pt (HS 4 0 0 n) (MS a V M m p s k) ts cs ds er)::RR) ss)(Q:ae->Prop)(CT:Hid (∀W g,Own w0 W (g::(gp,PR pt (HS 4 0 0 n) (MS a V M m p s k) ts cs ds er)::RR) ss->ak 124 #[gp,pr,.int .i64 8] W λx w'=>(x=.returned (.tuple #[.int .u32 c,.agg (aw 0 0 0 0 0 (.slice none 0 0) 0),.bool true]))/\∃RR',Q RR'/\Own w0 w' (g::(gp,PR pt (HS 4 0 0 n) (MS a V M m p s k) ts cs ds er)::RR') ss))(CS:Hid (∀w,ak 101 #[.int .i64 n,.agg (MS a V M m p s k),.int .u8 c] w (RB w (.tuple #[.agg (MS 0 0 0 0 0 0 0),.bool false,.int .i64 242]))))(hz:aq pt (HS 4 0 0 n) (MS a V M m p s k) ts cs ds er):ak 80 #[gp,pr] w λx w'=>(x=.returned (.tuple #[.agg (aw 8 0 0 0 0 (.slice none 0 0) 242),.bool true]))/\∃RR',Q RR'/\Own w0 w' ((gp,PR (PT 8) (HS 4 0 0 n) (MS a V M m p s k) ts cs ds (ER 242))::RR') ss:=by
 have HZ:=aa hz;have w1:IntKind.u8.wrap c=c:=kM _ FP;clear hz c0 c1;have CW:Hid (∀{W}{g9 g7 g:O9}{RR2},Own w0 W (g9::g7::g::(gp,PR pt (HS 4 0 0 n) (MS a V M m p s k) ts cs ds er)::RR2) ss->ak 125 #[gp,.int .i64 242] W (RO (.tuple #[.agg (aw 8 0 0 0 0 (.slice none 0 0) 242),.bool true]) w0 (g9::g7::g::(gp,PR (PT 8) (HS 4 0 0 n) (MS a V M m p s k) ts cs ds (ER 242))::RR2) ss)):=λh=>(Gf 242 _ (h.front 3 rfl) HZ.o).mono λx w' h=>⟨h.1,h.2.z7⟩;go_enter func80,ntmps80
 go_upto_region 4 with(first
  |(go_at_call 124;have _t:=hm;refine(CT.o _ _ hm).mono ?_;clear _t hm CT;rintro x w⟨rfl,RR2,hQ,hm⟩)
  |(with_reducible first|refine wa 76 hm BX ?_;clear hm;intro w g hm|refine ws 76 0 hm ?_ (h1:=al (Ak rfl));clear hm;intro w hm)
   )
 refine rO hm 20 (.am [(0,false),(1,false),(2,false),(3,false),(4,true),(5,false),(6,false),(7,false),(8,true),(9,false),(10,false)] (.two 11 (.am [(12,false),(13,false),(14,false),(15,false)] (.one 16 (.one 17 (.am [(18,false),(19,false)] .done)))) 16 (.one 11 (.am [(12,false),(13,false),(14,false),(15,false)] (.one 17 (.am [(18,false),(19,false)] .done)))))) ?_;clear hm;intro w hm;simp only[KT.am]
 iterate 4 refine kq ?_
 refine km (λW hm=>ld 2 hm rfl rfl rfl (ot rfl) (OM HZ.o (i:=3) rfl)) ?_
 iterate 3 refine kq ?_
 refine km (λW hm=>cg 2 hm rfl rfl rfl (LQ HZ.o) Gt (LW HZ.o)) ?_
 iterate 2 refine kq ?_
 refine au ?_ ?_
 .refine DJ rfl rfl (λK hK=>?_);go_simp;refine cB (CS.o _) hm ?_;clear hm;intro w1 hm;refine hK _ _ ⟨λW=>Own _ W _ _,λ_ h=>h,J7,?_⟩;clear hK K
  iterate 4 refine kq ?_
  refine Bo rfl rfl (Dl hm rfl FM ?_)
  clear hm;intro w g9 hm;refine⟨λW=>Own _ W _ _,λ_ h=>h,hm.dropRow,?_⟩
  try simp only[Act.put,s3]
  refine Bo rfl rfl (Aw 0 hm rfl rfl (Ac rfl) rfl Gt Na EH ?_)
  exact Pw
 ·(refine Bo rfl rfl (Dl hm rfl FM ?_))
  clear hm;intro w g9 hm;refine⟨λW=>Own _ W _ _,λ_ h=>h,hm.dropRow,?_⟩
  try simp only[Act.put,s3]
  refine DJ rfl rfl (λK hK=>?_);go_simp;refine cB (CS.o _) hm ?_;clear hm;intro w1 hm;refine hK _ _ ⟨λW=>Own _ W _ _,λ_ h=>h,Jc,?_⟩;clear hK K
  iterate 4 refine kq ?_
  refine Bo rfl rfl (Aw 0 hm rfl rfl (Ac rfl) rfl Gt Na EH ?_)
  exact Pw
end
section
variable{a:OA}{cs ds hs ms pt:ai}{e k:Int}{ss:O1}{o:Oz}{x:O7}{RR:ae}{pr:NY}{w w0:FC}
def J8(ho:o.op=.build 76 #[(0,x)])(hx:a.eval x=.int .u8 k):(execOp a.eval o).run prog w=.ok (.value (.agg (aw k 0 0 0 0 (.slice none 0 0) 0))) w:=
 Dq ho Ip
def Ir(ho:o.op=.build 88 #[]):(execOp a.eval o).run prog w=.ok (.value (.agg (MS 0 0 0 0 0 0 0))) w:=
 Dq ho (by simp only[cM,bZ];kernel_rfl)
def bV{gp:Nat}(n:Int){ts er:ai}(hm:Own w0 w ((gp,PR pt hs ms ts cs ds er)::RR) ss)(P Q:ae->Prop)(hQ:P RR)(CA:Hid (∀W g RR,P RR->Own w0 W (g::(gp,PR pt hs ms ts cs ds er)::RR) ss->ak 131 #[pr] W λx w'=>(x=.returned (.tuple #[.int .u32 0,.int .i64 n]))/\∃RR',Q RR'/\Own w0 w' (g::(gp,PR pt hs ms ts cs ds er)::RR') ss))(hz:aq pt hs ms ts cs ds er):ak 86 #[gp,pr] w λx w'=>(x=.returned (.tuple #[.agg (aw 5 0 0 0 0 (.slice none 0 0) 0),.bool true]))/\∃RR',Q RR'/\Own w0 w' ((gp,PR (PT 2) hs (MS 0 0 0 0 0 0 0) ts cs ds er)::RR') ss:=by
 have HZ:=aa hz;have HP:Hid (aq (PT 2) hs ms ts cs ds er):=aa (hz.tA rfl);clear hz;go_enter func86,ntmps86
 go_wp2_with(first
 |(go_at_call 131;have _t:=hm;refine(CA.o _ _ _ hQ hm).mono ?_;clear _t hm hQ;rintro x w⟨rfl,RR2,hQ,hm⟩)
 |go_at_call 79;refine cB WW hm ?_;clear hm;intro w1 hm
 |with_reducible refine wa 76 hm BX ?_;clear hm;intro w g hm
 |with_reducible refine cS (t:=76) ?_;(refine A8 rfl (J8 rfl rfl) ?_)
 |with_reducible refine cS (t:=88) ?_;(refine A8 rfl (Ir rfl) ?_)
 |with_reducible refine bE (t:=134) ?_;(refine Ad rfl (Aj 1 hm rfl rfl (Ac rfl) rfl Cm KN Ei (Eh HZ.o rfl) ?_);clear hm;intro w hm;try simp only[puts,s2,List.set]at hm)
 |with_reducible refine bE (t:=88) ?_;(refine Ad rfl (Aj 1 hm rfl rfl (Ac rfl) rfl Gt (by rw[Bg HP.o,JZ];decide) EH (Gu HP.o rfl) ?_);clear hm;intro w hm;try simp only[puts,s2,List.set]at hm)
 |refine UV ?_;try(clear hm;intro w gp hm))
 exact pA
def Yj{gp:Nat}(n v:Int){ts er:ai}(hm:Own w0 w ((gp,PR pt hs ms ts cs ds er)::RR) ss)(P Q:ae->Prop)(hQ:P RR)(hv:v≠0)(CA:Hid (∀W g RR,P RR->Own w0 W (g::(gp,PR pt hs ms ts cs ds er)::RR) ss->ak 131 #[pr] W λx w'=>(x=.returned (.tuple #[.int .u32 v,.int .i64 n]))/\∃RR',Q RR'/\Own w0 w' (g::(gp,PR pt hs ms ts cs ds er)::RR') ss))(hz:aq pt hs ms ts cs ds er):ak 86 #[gp,pr] w λx w'=>(x=.returned (.tuple #[.agg (aw 8 0 0 0 0 (.slice none 0 0) 160),.bool true]))/\∃RR',Q RR'/\Own w0 w' ((gp,PR (PT 8) hs ms ts cs ds (ER 160))::RR') ss:=by
 have HZ:=aa hz;have CW:Hid (∀{W}{g:O9}{RR2},Own w0 W (g::(gp,PR pt hs ms ts cs ds er)::RR2) ss->ak 125 #[gp,.int .i64 160] W (RO (.tuple #[.agg (aw 8 0 0 0 0 (.slice none 0 0) 160),.bool true]) w0 (g::(gp,PR (PT 8) hs ms ts cs ds (ER 160))::RR2) ss)):=λh=>(Gf 160 _ (h.front 1 rfl) HZ.o).mono λx w' h=>⟨h.1,h.2.perm (fM _ _ _)⟩;have q1:(v !=0)=true:=by simpa using hv
 have q2:(v==0)=false:=by simpa using hv
 clear hv;clear hz;go_enter func86,ntmps86
 go_wp2_with(first
 |(go_at_call 131;have _t:=hm;refine(CA.o _ _ _ hQ hm).mono ?_;clear _t hm hQ;rintro x w⟨rfl,RR2,hQ,hm⟩)
 |go_at_call 125;refine MP (CW.o hm) ?_;clear hm;intro w hm
 |with_reducible refine wa 76 hm BX ?_;clear hm;intro w g hm
 |refine UV ?_;try(clear hm;intro w gp hm))
 exact pA
def bJ{gp:Nat}(n:Int){ts er:ai}(hm:Own w0 w ((gp,PR pt hs ms ts cs ds er)::RR) ss)(P Q:ae->Prop)(hQ:P RR)(hn:0<n)(CA:Hid (∀W g RR,P RR->Own w0 W (g::(gp,PR pt hs ms ts cs ds er)::RR) ss->ak 132 #[pr] W λx w'=>(x=.returned (.int .i64 n))/\∃RR',Q RR'/\Own w0 w' (g::(gp,PR pt hs ms ts cs ds er)::RR') ss))(hz:aq pt hs ms ts cs ds er):ak 88 #[gp,pr] w λx w'=>(x=.returned (.tuple #[.agg (aw 8 0 0 0 0 (.slice none 0 0) 261),.bool true]))/\∃RR',Q RR'/\Own w0 w' ((gp,PR (PT 8) hs ms ts cs ds (ER 261))::RR') ss:=by
 have HZ:=aa hz;have CW:Hid (∀{W}{g:O9}{RR2},Own w0 W (g::(gp,PR pt hs ms ts cs ds er)::RR2) ss->ak 125 #[gp,.int .i64 261] W (RO (.tuple #[.agg (aw 8 0 0 0 0 (.slice none 0 0) 261),.bool true]) w0 (g::(gp,PR (PT 8) hs ms ts cs ds (ER 261))::RR2) ss)):=λh=>(Gf 261 _ (h.front 1 rfl) HZ.o).mono λx w' h=>⟨h.1,h.2.perm (fM _ _ _)⟩;have q1:decide (n>0)=true:=by simpa using hn
 have q2:decide (0<n)=true:=by simpa using hn
 clear hn;clear hz;go_enter func88,ntmps88
 go_wp2_with(first
 |(go_at_call 132;have _t:=hm;refine(CA.o _ _ _ hQ hm).mono ?_;clear _t hm hQ;rintro x w⟨rfl,RR2,hQ,hm⟩)
 |go_at_call 125;refine MP (CW.o hm) ?_;clear hm;intro w hm
 |with_reducible refine wa 76 hm BX ?_;clear hm;intro w g hm
 |refine UV ?_;try(clear hm;intro w gp hm))
 exact pA
def a0i{gp:Nat}(n:Int){ts er:ai}(hm:Own w0 w ((gp,PR pt hs ms ts cs ds er)::RR) ss)(P Q:ae->Prop)(hQ:P RR)(hn:¬0<n)(CA:Hid (∀W g RR,P RR->Own w0 W (g::(gp,PR pt hs ms ts cs ds er)::RR) ss->ak 132 #[pr] W λx w'=>(x=.returned (.int .i64 n))/\∃RR',P RR'/\Own w0 w' (g::(gp,PR pt hs ms ts cs ds er)::RR') ss))(CE:Hid (∀W g RR,P RR->Own w0 W (g::(gp,PR pt hs ms ts cs ds er)::RR) ss->ak 133 #[pr] W λx w'=>(x=.returned (.bool true))/\∃RR',Q RR'/\Own w0 w' (g::(gp,PR pt hs ms ts cs ds er)::RR') ss))(hz:aq pt hs ms ts cs ds er):ak 88 #[gp,pr] w λx w'=>(x=.returned (.tuple #[.agg (aw 7 0 0 0 0 (.slice none 0 0) 0),.bool true]))/\∃RR',Q RR'/\Own w0 w' ((gp,PR (PT 7) hs ms ts cs ds er)::RR') ss:=by
 have HZ:=aa hz;have q1:decide (n>0)=false:=by simpa using hn
 have q2:decide (0<n)=false:=by simpa using hn
 clear hn;clear hz;go_enter func88,ntmps88
 go_wp2_with(first
 |(go_at_call 132;have _t:=hm;refine(CA.o _ _ _ hQ hm).mono ?_;clear _t hm hQ;rintro x w⟨rfl,RR2,hQ,hm⟩)
 |(go_at_call 133;have _t:=hm;refine(CE.o _ _ _ hQ hm).mono ?_;clear _t hm hQ;rintro x w⟨rfl,RR2,hQ,hm⟩)
 |go_at_call 89;refine cB iD hm ?_;clear hm;intro w1 hm
 |with_reducible refine wa 76 hm BX ?_;clear hm;intro w g hm
 |with_reducible refine cS (t:=76) ?_;(refine A8 rfl (J8 rfl rfl) ?_)
 |with_reducible refine bE (t:=134) ?_;(refine Ad rfl (Aj 1 hm rfl rfl (Ac rfl) rfl Cm KN Ei (Eh HZ.o rfl) ?_);clear hm;intro w hm;try simp only[puts,s2,List.set]at hm)
 |refine UV ?_;try(clear hm;intro w gp hm))
 exact pA
def Yi{gp:Nat}(n:Int){ts er:ai}(hm:Own w0 w ((gp,PR pt hs ms ts cs ds er)::RR) ss)(P Q:ae->Prop)(hQ:P RR)(hn:¬0<n)(CA:Hid (∀W g RR,P RR->Own w0 W (g::(gp,PR pt hs ms ts cs ds er)::RR) ss->ak 132 #[pr] W λx w'=>(x=.returned (.int .i64 n))/\∃RR',P RR'/\Own w0 w' (g::(gp,PR pt hs ms ts cs ds er)::RR') ss))(CE:Hid (∀W g RR,P RR->Own w0 W (g::(gp,PR pt hs ms ts cs ds er)::RR) ss->ak 133 #[pr] W λx w'=>(x=.returned (.bool false))/\∃RR',Q RR'/\Own w0 w' (g::(gp,PR pt hs ms ts cs ds er)::RR') ss))(hz:aq pt hs ms ts cs ds er):ak 88 #[gp,pr] w λx w'=>(x=.returned (.tuple #[.agg (aw 1 0 0 0 0 (.slice none 0 0) 0),.bool true]))/\∃RR',Q RR'/\Own w0 w' ((gp,PR pt hs ms ts cs ds er)::RR') ss:=by
 have HZ:=aa hz;have q1:decide (n>0)=false:=by simpa using hn
 have q2:decide (0<n)=false:=by simpa using hn
 clear hn;clear hz;go_enter func88,ntmps88
 go_wp2_with(first
 |(go_at_call 132;have _t:=hm;refine(CA.o _ _ _ hQ hm).mono ?_;clear _t hm hQ;rintro x w⟨rfl,RR2,hQ,hm⟩)
 |(go_at_call 133;have _t:=hm;refine(CE.o _ _ _ hQ hm).mono ?_;clear _t hm hQ;rintro x w⟨rfl,RR2,hQ,hm⟩)
 |with_reducible refine wa 76 hm BX ?_;clear hm;intro w g hm
 |with_reducible refine cS (t:=76) ?_;(refine A8 rfl (J8 rfl rfl) ?_)
 |refine UV ?_;try(clear hm;intro w gp hm))
 exact pA
def wL{gp:Nat}{ts er:ai}(hm:Own w0 w ((gp,PR pt hs ms ts cs ds er)::RR) ss):ak 90 #[gp,pr] w (RO (.tuple #[.agg (aw 7 0 0 0 0 (.slice none 0 0) 0),.bool true]) w0 ((gp,PR pt hs ms ts cs ds er)::RR) ss):=by
 go_enter func90,ntmps90
 go_wp2_with(first
 |with_reducible refine cS (t:=76) ?_;(refine A8 rfl (J8 rfl rfl) ?_)
 |refine UV ?_;try(clear hm;intro w gp hm))
 exact xV
def nI{gp:Nat}{ts:ai}(hm:Own w0 w ((gp,PR pt hs ms ts cs ds (ER e))::RR) ss)(hz:aq pt hs ms ts cs ds (ER e)):ak 92 #[gp,pr] w (RO (.tuple #[.agg (aw 8 0 0 0 0 (.slice none 0 0) e),.bool true]) w0 ((gp,PR pt hs ms ts cs ds (ER e))::RR) ss):=by
 have HZ:=aa hz;clear hz;go_enter func92,ntmps92
 go_wp2_with(first
 |with_reducible refine wl 25 1 hm ?_ (hv:=al (yK HZ.o (i:=0) rfl))
 |with_reducible refine cS (t:=76) ?_;(refine A8 rfl (MN rfl rfl rfl) ?_)
 |refine UV ?_;try(clear hm;intro w gp hm))
 exact xV
end
section
variable{cs ds hs l ms pt ts2:ai}{m p s:Int}{ss:O1}{RR:ae}{pr:NY}{w w0:FC}
def aq.V3{ts er:ai}(h:aq pt hs ms ts cs ds er):Aq prog 141 ts.size:=by rw[h.ts];exact ag FU
def aq.L6{ts er:ai}(h:aq pt hs ms ts cs ds er):Aq prog 143 cs.size:=by rw[h.cs];exact ag FU
def aq.Ud{ts er:ai}(h:aq pt hs ms ts cs ds er):Aq prog 147 ds.size:=by rw[h.ds];exact ag FU
def ZX(h:l.size=258):Aq prog 139 l.size:=by rw[h];exact ag FU
def Uj:(TS Hf 0 0 0 0).size=262:=Dy Az
def OY:(CS Hf 0 0).size=260:=CU Az
def kS{gp:Nat}(c:Int)(c0:0<=c)(c1:c<=1){ts er:ai}(hm:Own w0 w ((gp,PR pt hs ms ts cs ds er)::RR) ss)(Q:ae->Prop)(CT:Hid (∀W g,Own w0 W (g::(gp,PR pt hs ms ts cs ds er)::RR) ss->ak 124 #[gp,pr,.int .i64 1] W λx w'=>(x=.returned (.tuple #[.int .u32 c,.agg (aw 0 0 0 0 0 (.slice none 0 0) 0),.bool true]))/\∃RR',Q RR'/\Own w0 w' (g::(gp,PR pt hs ms ts cs ds er)::RR') ss))(CS:Hid (∀w,ak 126 #[.agg ts,.int .i64 c] w (RB w (.tuple #[.agg ts2,.bool false,.int .i64 0]))))(hz:aq pt hs ms ts cs ds er)(k2:ts2.size=262)(o2:∀v∈ts2,v.oneCell'=true):ak 82 #[gp,pr] w λx w'=>(x=.returned (.tuple #[.agg (aw 0 0 0 0 0 (.slice none 0 0) 0),.bool false]))/\∃RR',Q RR'/\Own w0 w' ((gp,PR pt hs ms ts2 cs ds er)::RR') ss:=by
 have HZ:=aa hz;have HT:Hid (aq pt hs ms ts2 cs ds er):=aa (hz.xz k2);have K2:=aa k2;have O2:=aa o2;have w1:IntKind.i64.wrap c=c:=av;clear hz c0 c1 k2 o2;go_enter func82,ntmps82
 go_wp2_with(first
 |(go_at_call 124;have _t:=hm;refine(CT.o _ _ hm).mono ?_;clear _t hm CT;rintro x w⟨rfl,RR2,hQ,hm⟩)
 |with_reducible refine wa 76 hm BX ?_;clear hm;intro w g hm
 |with_reducible refine bh (t:=141) ?_;(first|refine A8 rfl (cg 2 hm rfl rfl rfl (PZ HZ.o) HZ.o.V3 (Q9 HZ.o)) ?_|refine A8 rfl (eK 0 hm rfl rfl rfl HT.o.V3) ?_)
 |with_reducible refine bE (t:=141) ?_;(first|refine Ad rfl (Aw 0 hm rfl rfl (Ac rfl) rfl HT.o.V3 (by rw[K2.o,Uj]) O2.o ?_);clear hm;intro w hm;try simp only[puts,s2,List.set]at hm|refine Ad rfl (Aj 3 hm rfl rfl (Ac rfl) rfl HT.o.V3 (by rw[Bg HZ.o,K2.o];decide) O2.o (LV HZ.o K2.o) ?_);clear hm;intro w hm;try simp only[puts,s2,List.set]at hm)
 |refine UV ?_;try(clear hm;intro w gp hm))
 exact iz
def XU{gp:Nat}(c a V M:Int)(k:Int)(c0:0<=c)(c1:c<=1){ts er:ai}(hm:Own w0 w ((gp,PR pt hs (MS a V M m p s k) ts cs ds er)::RR) ss)(Q:ae->Prop)(CT:Hid (∀W g,Own w0 W (g::(gp,PR pt hs (MS a V M m p s k) ts cs ds er)::RR) ss->ak 124 #[gp,pr,.int .i64 1] W λx w'=>(x=.returned (.tuple #[.int .u32 c,.agg (aw 0 0 0 0 0 (.slice none 0 0) 0),.bool true]))/\∃RR',Q RR'/\Own w0 w' (g::(gp,PR pt hs (MS a V M m p s k) ts cs ds er)::RR') ss))(CS:Hid (∀w,ak 126 #[.agg ts,.int .i64 c] w (RB w (.tuple #[.agg ts2,.bool true,.int .i64 0]))))(hz:aq pt hs (MS a V M m p s k) ts cs ds er)(k2:ts2.size=262)(o2:∀v∈ts2,v.oneCell'=true)(cs2 ds2 L:ai)(hl:ts2.extract 0 (0+L.size)=L)(kl:L.size=258)(kc:cs2.size=260)(oc:∀v∈cs2,v.oneCell'=true)(kd:ds2.size=260)(od:∀v∈ds2,v.oneCell'=true)(CP:Hid (∀w,ak 127 #[.agg L] w (RB w (.tuple #[.agg cs2,.int .i64 0]))))(CD:Hid (∀w,ak 128 #[.int .i64 m] w (RB w (.agg ds2)))):ak 82 #[gp,pr] w λx w'=>(x=.returned (.tuple #[.agg (aw 0 0 0 0 0 (.slice none 0 0) 0),.bool false]))/\∃RR',Q RR'/\Own w0 w' ((gp,PR (PT 4) hs (MS a V M m p s k) ts2 cs2 ds2 er)::RR') ss:=by
 have HZ:=aa hz;have HT:Hid (aq pt hs (MS a V M m p s k) ts2 cs ds er):=aa (hz.xz k2);have K2:=aa k2;have O2:=aa o2;have w1:IntKind.i64.wrap c=c:=av;clear hz c0 c1 k2 o2;have HC:Hid (aq pt hs (MS a V M m p s k) ts2 cs2 ds er):=aa (HT.o.p8 kc);have HD:Hid (aq pt hs (MS a V M m p s k) ts2 cs2 ds2 er):=aa (HC.o.sj kd);have HL:=aa hl;have KL:=aa kl;have KC:=aa kc;have OC:=aa oc;have KD:=aa kd;have OD:=aa od;clear hl kl kc oc kd od;go_enter func82,ntmps82
 go_wp2_with(first
 |(go_at_call 124;have _t:=hm;refine(CT.o _ _ hm).mono ?_;clear _t hm CT;rintro x w⟨rfl,RR2,hQ,hm⟩)
 |go_at_call 126;refine cB (CS.o _) hm ?_;clear hm;intro w1 hm
 |with_reducible refine wa 76 hm BX ?_;clear hm;intro w g hm
 |with_reducible refine bh (t:=141) ?_;(first|refine A8 rfl (cg 2 hm rfl rfl rfl (PZ HZ.o) HZ.o.V3 (Q9 HZ.o)) ?_|refine A8 rfl (eK 0 hm rfl rfl rfl HT.o.V3) ?_)
 |with_reducible refine bE (t:=141) ?_;(first|refine Ad rfl (Aw 0 hm rfl rfl (Ac rfl) rfl HT.o.V3 (by rw[K2.o,Uj]) O2.o ?_);clear hm;intro w hm;try simp only[puts,s2,List.set]at hm|refine Ad rfl (Aj 3 hm rfl rfl (Ac rfl) rfl HT.o.V3 (by rw[Bg HZ.o,K2.o];decide) O2.o (LV HZ.o K2.o) ?_);clear hm;intro w hm;try simp only[puts,s2,List.set]at hm)
 |go_at_call 127;refine cB (CP.o _) hm ?_;clear hm;intro w1 hm
 |go_at_call 128;refine cB (CD.o _) hm ?_;clear hm;intro w1 hm
 |go_at_call 83;refine cB iF hm ?_;clear hm;intro w1 hm
 |with_reducible refine bh (t:=139) ?_;(refine A8 rfl (cg 0 hm rfl rfl rfl HL.o (ZX KL.o) (by rw[K2.o,KL.o];decide)) ?_)
 |with_reducible refine bE (t:=143) ?_;(refine Ad rfl (Aj 3 hm rfl rfl (Ac rfl) rfl HC.o.L6 (by rw[Bg HT.o,KC.o];decide) OC.o (Jy HT.o KC.o) ?_);clear hm;intro w hm;try simp only[puts,s2,List.set]at hm)
 |with_reducible refine wl 3 3 hm ?_ (hv:=al (a16 HC.o (i:=3) rfl))
 |with_reducible refine bE (t:=147) ?_;(refine Ad rfl (Aj 3 hm rfl rfl (Ac rfl) rfl HD.o.Ud KQ OD.o (Q8 HC.o KD.o) ?_);clear hm;intro w hm;try simp only[puts,s2,List.set]at hm)
 |with_reducible refine bE (t:=134) ?_;(refine Ad rfl (Aj 3 hm rfl rfl (Ac rfl) rfl Cm (by rw[Bg HD.o];decide) Ei (Eh HD.o rfl) ?_);clear hm;intro w hm;try simp only[puts,s2,List.set]at hm)
 |refine UV ?_;try(clear hm;intro w gp hm))
 exact iz
def a0w{gp:Nat}(c:Int)(c0:0<=c)(c1:c<=1){ts er:ai}(hm:Own w0 w ((gp,PR pt hs ms ts cs ds er)::RR) ss)(Q:ae->Prop)(CT:Hid (∀W g,Own w0 W (g::(gp,PR pt hs ms ts cs ds er)::RR) ss->ak 124 #[gp,pr,.int .i64 1] W λx w'=>(x=.returned (.tuple #[.int .u32 c,.agg (aw 0 0 0 0 0 (.slice none 0 0) 0),.bool true]))/\∃RR',Q RR'/\Own w0 w' (g::(gp,PR pt hs ms ts cs ds er)::RR') ss))(CS:Hid (∀w,ak 126 #[.agg ts,.int .i64 c] w (RB w (.tuple #[.agg ts2,.bool false,.int .i64 100]))))(hz:aq pt hs ms ts cs ds er)(k2:ts2.size=262)(o2:∀v∈ts2,v.oneCell'=true):ak 82 #[gp,pr] w λx w'=>(x=.returned (.tuple #[.agg (aw 8 0 0 0 0 (.slice none 0 0) 100),.bool true]))/\∃RR',Q RR'/\Own w0 w' ((gp,PR (PT 8) hs ms ts cs ds (ER 100))::RR') ss:=by
 have HZ:=aa hz;have HT:Hid (aq pt hs ms ts2 cs ds er):=aa (hz.xz k2);have K2:=aa k2;have O2:=aa o2;have w1:IntKind.i64.wrap c=c:=av;clear hz c0 c1 k2 o2;have CW:Hid (∀{W}{g9 g7 g:O9}{RR2},Own w0 W (g9::g7::g::(gp,PR pt hs ms ts cs ds er)::RR2) ss->ak 125 #[gp,.int .i64 100] W (RO (.tuple #[.agg (aw 8 0 0 0 0 (.slice none 0 0) 100),.bool true]) w0 (g9::g7::g::(gp,PR (PT 8) hs ms ts cs ds (ER 100))::RR2) ss)):=λh=>(Gf 100 _ (h.front 3 rfl) HZ.o).mono λx w' h=>⟨h.1,h.2.z7⟩;go_enter func82,ntmps82
 go_wp2_with(first
 |(go_at_call 124;have _t:=hm;refine(CT.o _ _ hm).mono ?_;clear _t hm CT;rintro x w⟨rfl,RR2,hQ,hm⟩)
 |go_at_call 126;refine cB (CS.o _) hm ?_;clear hm;intro w1 hm
 |go_at_call 125;refine MP (CW.o hm) ?_;clear hm;intro w hm
 |(with_reducible first|refine wa 76 hm BX ?_;clear hm;intro w g hm|refine wa 141 hm Jz ?_;clear hm;intro w g9 hm)
 |with_reducible refine bh (t:=141) ?_;((refine A8 rfl (cg 2 hm rfl rfl rfl (PZ HZ.o) HZ.o.V3 (Q9 HZ.o)) ?_))
 |with_reducible refine ws 141 0 hm ?_ (ht:=al HT.o.V3) (hs:=(by with_unfolding_all rw[K2.o,Uj])) (h1:=al O2.o);clear hm;intro w hm
 |refine UV ?_;try(clear hm;intro w gp hm))
 exact iz
end
section
variable{M c k m n s:Int}{w:FC}
def A2f:ak 138 #[.int .i64 n,.agg (MS 0 0 0 0 0 0 0),.int .u8 0] w (RB w (.tuple #[.agg (MS 5 0 0 0 0 0 0),.bool true])):=xo
def ZQ:ak 138 #[.int .i64 n,.agg (MS 0 0 0 0 0 0 0),.int .u8 1] w (RB w (.tuple #[.agg (MS 1 0 0 0 0 0 0),.bool true])):=xo
def ST(h:1<c):ak 138 #[.int .i64 n,.agg (MS 0 0 0 0 0 0 0),.int .u8 c] w (RB w (.tuple #[.agg (MS 1 0 0 0 0 0 0),.bool false])):=by
 have q1:(c==0)=false:=by simp;omega
 have q2:decide (c<=1)=false:=an;exact xo
def YN(m:Int){V:Int}(hv:DX V M=true)(hM0:0<=M)(hM:M<=4)(c0:0<=c)(c1:c<=255)(hV:V<=n)(hb:n<=65536)(hd:EZ M c=true)(w:FC):ak 139 #[.int .i64 n,.agg (MS 1 V M 0 0 0 0),.int .u8 c] w (RB w (.tuple #[.agg (MS 2 0 0 (D5 V M c) 0 0 0),.bool (EL V M c n)])):=Lv
def je(m:Int){V:Int}(hv:DX V M=true)(hM0:0<=M)(hM:M<=4)(c0:0<=c)(c1:c<=255)(hV:V<=n)(hb:n<=65536)(hd:EZ M c=false)(w:FC):ak 139 #[.int .i64 n,.agg (MS 1 V M 0 0 0 0),.int .u8 c] w (RB w (.tuple #[.agg (MS 1 (D5 V M c) (EM M c) 0 0 0 0),.bool (EL V M c n)])):=Lv
def Vz(n:Int){V:Int}(hv:DX V M=true)(hM0:0<=M)(hM:M<=4)(c0:0<=c)(c1:c<=255)(hV:V<=m)(hb:m<=65536)(hd:EZ M c=true)(w:FC):ak 140 #[.int .i64 n,.agg (MS 2 V M m 0 0 0),.int .u8 c] w (RB w (.tuple #[.agg (MS 3 0 0 m (D5 V M c) 0 0),.bool (EL V M c m)])):=Mr
def Z9(n:Int){V:Int}(hv:DX V M=true)(hM0:0<=M)(hM:M<=4)(c0:0<=c)(c1:c<=255)(hV:V<=m)(hb:m<=65536)(hd:EZ M c=false)(w:FC):ak 140 #[.int .i64 n,.agg (MS 2 V M m 0 0 0),.int .u8 c] w (RB w (.tuple #[.agg (MS 2 (D5 V M c) (EM M c) m 0 0 0),.bool (EL V M c m)])):=Mr
def SR(s0:0<=s)(s1:s<16777216)(c0:0<=c)(c1:c<=255):bits .or .u32 (s*256) c=s*256+c:=
 rW .u32 32 FU (λn h0 h1=>jO n FP) 8 (s*256) c FP FP FP c0 FP FP
def qW(a m p:Int)(a0:0<=a)(a1:a<=6)(k0:0<=k)(hk:k<3)(s0:0<=s)(s1:s<16777216)(c0:0<=c)(c1:c<=255):ak 141 #[.int .i64 n,.agg (MS a 0 0 m p s k),.int .u8 c] w (RB w (.tuple #[.agg (MS a 0 0 m p (s*256+c) (k+1)),.bool true])):=by
 have q1:(k+1==4)=false:=by simp;omega
 exact DO
def iq(a m p:Int)(k:Int)(a0:0<=a)(a1:a<=6)(k0:0<=k)(hk:k=3)(s0:0<=s)(s1:s<16777216)(c0:0<=c)(c1:c<=255):ak 141 #[.int .i64 n,.agg (MS a 0 0 m p s k),.int .u8 c] w (RB w (.tuple #[.agg (MS (a+1) 0 0 m p (s*256+c) (k+1)),.bool true])):=by
 subst hk;exact DO
end
section
variable{l m:ac}
def cd(l:ac)(n:Nat):Int:=if n=0 then 0 else gi (Ji l) n
def pfc(l:ac):Nat->Int
|0=>0
|n+1=>(pfc l n+cd l n)*2
def YX(hl:l.length=258)(hb:Bytes l):(Ji l).length=16/\∀x∈Ji l,0<=x/\x<=258:=by
 have h:=QU hb l.length (aX _);rw[gY,hl]at h;exact h
def Jq(hl:l.length=258)(hb:Bytes l)(n:Nat)(hn:n<16):0<=cd l n/\cd l n<=258:=by
 rw[cd];split
 .omega
 .obtain⟨h1,h2⟩:=YX hl hb;exact h2 _ (by rw[BZ _ n FP];exact dF _)
def Jf{l:ac}(hl:l.length=258)(hb:Bytes l):∀n:Nat,n<=16->0<=pfc l n/\pfc l n<=1000*(2^n-1)
|0,_=>by simp[pfc]
|n+1,h=>by
  have h1:=Jf hl hb n FP;have h2:=Jq hl hb n FP;have h3:(1:Int)<=2^n:=Int.le_of_lt_add_one (by have:(0:Int)<2^n:=nN FU;omega);rw[pfc,Int.pow_succ];omega
def c16(l:ac):ac:=(Ji l).set 0 0
def YI(h:(Ji l).length=16)(n:Nat):gi (c16 l) n=cd l n:=by
 rw[c16,DY FP,cd]
def zN(h:l.length=16)(k:m.length=16):(J .i64 l).size=(J .i64 m).size:=by rw[Df,Df,h,k]
def first_any(bits:Nat)(w0:FC)(hl:l.length=258)(hb:Bytes l)(hn:bits<=15):ak 171 #[.agg (J .u8 l),.int .i64 bits] w0 (RB w0 (.tuple #[.int .i64 (pfc l bits),.int .i64 (cd l bits)])):=by
 have HL:=aa hl;have hk:=YX hl hb;have HK:=aa hk.1;have HC:=aa (show(c16 l).length=16 by rw[c16,cO];exact hk.1);have CC:=aa (λw=>a0' w hl hb);have HS:Hid ((J .i64 (Ji l)).setIfInBounds 0 (.int .i64 0)=J .i64 (c16 l)):=aa (Y0 .i64 _ 0 0);have HP:Hid (∀n:Nat,n<=16->0<=pfc l n/\pfc l n<=1000*(2^n-1)):=aa (Jf hl hb);have HN:Hid (∀n:Nat,n<16->0<=cd l n/\cd l n<=258):=aa (Jq hl hb);have HG:Hid (∀n:Nat,n<16->(J .i64 (c16 l))[n]?=some (.int .i64 (cd l n))):=λn h=>by rw[XC .i64 _ n (by rw[HC.o];exact h),YI HK.o]
 clear hl hb hk;generalize c16 l=c at*;generalize Ji l=c0 at*;go_enter func171,ntmps171;have hm:=Own.nil w0
 go_wp2_with(first
 |go_at_call 214;refine cB (CC.o _) hm ?_;clear hm;intro w1 hm
 |with_reducible refine wb hm ?_;clear hm;intro w g hm
 |with_reducible refine na ?_;(with_reducible refine wa _ hm gQ ?_;clear hm;intro w g2 hm)
 |(with_reducible first|refine aM 139 0 hm ?_ (ht:=al (F5 HL.o))|refine ws 296 0 hm ?_ (ht:=al (mR HK.o)) (hs:=al (zN HK.o (fp ..))) (h1:=al J_one);clear hm;intro w hm)
 |with_reducible refine bE (t:=3) ?_;(refine Ad rfl (AZ 0 hm rfl rfl UU rfl (ot rfl) (by rw[Df,HK.o];decide) rfl rfl HS.o ?_);clear hm;intro w hm;try simp only[puts,s2,List.set]at hm))
 go_loopw[4,7] (λz u wr=>∃k:Nat,k<=bits/\u=.int .i64 (k+1)/\z=.int .i64 (pfc l k)/\Own w0 wr [(g2,J .i64 c),(g,J .u8 l)] []) (λ_ u _=>bits+1-(intOf u).toNat)
 case atStart=>exact⟨0,FP,rfl,rfl,hm⟩
 case round=>
  clear hm;obtain⟨k,hk,rfl,rfl,hm⟩:=hrel;by_cases hlt:k<bits
  .have q1:decide ((k:Int)+1<=bits)=true:=az;have h1:=HP.o k FP;have h2:=HN.o k FP;have h3:(2:Int)^k<=2^16:=by exact_mod_cast jD (show 0<2 by decide) (show k<=16 by omega)
   have e1:IntKind.i64.wrap ((k:Int)+1-1)=k:=by rw[aZ _ FP];omega
   have w1:IntKind.i64.wrap (pfc l k+cd l k)=pfc l k+cd l k:=av;have w2:IntKind.i64.wrap ((pfc l k+cd l k)*2)=(pfc l k+cd l k)*2:=av;have w3:IntKind.i64.wrap ((k:Int)+1+1)=(k:Int)+1+1:=av;have hci:=HG.o k FP;have HE:Hid (pfc l (k+1)=(pfc l k+cd l k)*2):=aa rfl;have hk16:k<16:=FP
   clear h1 h2 h3;generalize pfc l k=x at*;generalize cd l k=y at*
   go_wp2_with(first
    |with_reducible refine wl 3 0 hm ?_ (hv:=al hci))
   go_roundw
   case rel=>exact⟨k+1,FP,by go_num,by rw[HE.o],hm⟩
   case measure=>simp[intOf];omega
  .obtain rfl:bits=k:=FP
   have q1:decide ((bits:Int)+1<=bits)=false:=an;have hci:=HG.o bits FP;have hk16:bits<16:=FP
   go_upto_region 7 with fail
   refine rO hm 6 (.am [(0,false),(1,false),(2,false),(3,true),(4,false),(5,false)] .done) ?_;clear hm;intro w hm;simp only[KT.am]
   iterate 2 refine kq ?_
   refine bj rfl rfl (λW=>by go_simp;rw[aQ FP]) ?_
   try simp only[Act.put,s3]
   refine km (λW hm=>ld 0 hm rfl rfl rfl (ot rfl) hci) ?_
   iterate 2 refine kq ?_
   refine Ba ?_;go_simp;go_wp2
   go_ret2
   exact cL
end
section
variable{a:OA}{cs ns zc:ai}{b c:Int}{l:ac}{k n off:Nat}{o:Oz}{x y z:O7}{t:O4}{w:FC}
def VE(off:Nat):∀(vs:ar)(j:Nat)(cs:ai),(vs.zipIdx j).foldl (λ(cs:ai)(c:Value×Nat)=>cs.setIfInBounds (off+c.2) c.1) cs=puts cs (off+j) vs
|[],_,_=>rfl
|v::vs,j,cs=>by rw[List.zipIdx_cons,List.foldl_cons,VE off vs (j+1),puts];rfl
def wF{places:Nat->Option (Nat×Nat)}{vs:ar}{v:NY}{rest:List (Nat×Value)}(hp:places k=some (off,n))(hv:v.cells=vs.toArray)(hn:vs.length=n)(hf:off+n<=cs.size)(hs:splice cs off vs.toArray=ns):
  Instr.fill places cs ((k,v)::rest)=Instr.fill places ns rest:=by
 subst hn;simp only[Instr.fill,hp,hv];split
 .rename_i h;simp at h;omega
 rw[<-hs,Qg cs off vs hf]
 congr 1
 have h:=VE off vs 0 cs;rw[mW]at h;rw[<-h,<-Array.foldl_toList,Array.toList_zipIdx]
def Zj{places:Nat->Option (Nat×Nat)}(vs:ar){rest:List (Nat×Value)}(hp:places k=some (off,n))(hn:vs.length=n)(hf:off+n<=cs.size)(hs:splice cs off vs.toArray=ns):
  Instr.fill places cs ((k,.agg vs.toArray)::rest)=Instr.fill places ns rest:=wF hp rfl hn hf hs
def VG{places:Nat->Option (Nat×Nat)}{v:NY}{rest:List (Nat×Value)}(hp:places k=some (off,1))(hv:v.cells=#[v])(hf:off<cs.size)(hs:cs.setIfInBounds off v=ns):
  Instr.fill places cs ((k,v)::rest)=Instr.fill places ns rest:=by
 simp only[Instr.fill,hp,hv];split
 .rename_i h;simp at h;omega
 rw[<-hs];rfl
def VT{places:List (Nat×Nat)}(hu:prog.underlying t=some (.struct (prog.fieldsOf t)))(hf:(prog.fieldsOf t).toList.mapM (λf=>(prog.info? f.type).map λi=>(f.offset,i.size))=some places)(hz:∀w,(zeroValue t).run prog w=.ok (.agg zc) w)(hi:(prog.info? t).isSome=true)(w:FC)
  (parts:List (Nat×Value)):prog.built t parts=Instr.fill (places.toArray[·]?) zc parts:=by
 obtain⟨i,hi⟩:=qU.1 hi
 have hzi:i.zero=some (.agg zc):=by
  have:=hz w;simp[zeroValue,typeInfo,hi]at this;cases hzz:i.zero with
 |none=>simp[hzz]at this
 |some z=>simp[hzz]at this;rw[this]
 unfold Program.built;rw[hi,hu];simp only[hzi,hf];rfl
def MO(ho:o.op=.build 143 #[(0,x)])(hx:a.eval x=.agg (J .u8 l))(hl:l.length=258):(execOp a.eval o).run prog w=.ok (.value (.agg (CS l 0 0))) w:=by
 refine Dq ho ?_;rw[VT (places:=[(0,258),(258,1),(259,1)]) FZ FZ QA FZ w];simp only[cM,bT,bZ,hx];rw[show J .u8 l=(vs .u8 l).toArray from rfl,Zj (vs .u8 l) rfl (by rw[Ai,hl]) (by rw[CU Az];omega) (aA Az hl)];rfl
def Kq(ho:o.op=.build 143 #[(0,x),(1,y),(2,z)])(hx:a.eval x=.agg (J .u8 l))(hy:a.eval y=.int .i64 c)(hz:a.eval z=.int .i64 b)(hl:l.length=258):(execOp a.eval o).run prog w=.ok (.value (.agg (CS l c b))) w:=by
 refine Dq ho ?_;rw[VT (places:=[(0,258),(258,1),(259,1)]) FZ FZ QA FZ w];simp only[cM,bT,bZ,hx,hy,hz];rw[show J .u8 l=(vs .u8 l).toArray from rfl,Zj (vs .u8 l) rfl (by rw[Ai,hl]) (by rw[CU Az];omega) (aA Az hl),VG rfl rfl (A13 hl) (yU hl c),VG rfl rfl (A15 hl) (yV hl b)];rfl
end
section
variable{b b' c c':Int}{l m:ac}
def kp:ac->Int->Int->Int->Int
|[],_,_,_=>0
|n::r,b,p,s=>if n=b then if p=0 then s else kp r b (p-1) (s+1)else kp r b p (s+1)
def XW(b p:Int)(w0:FC)(hl:l.length=258)(hb:Bytes l)(p0:0<=p)(p1:p<=1000000):ak 172 #[.agg (J .u8 l),.int .i64 b,.int .i64 p] w0 (RB w0 (.int .i64 (kp l b p 0))):=by
 have HB:=aa hb;have HL:=aa hl;obtain⟨r,hr⟩:∃r,r=kp l b p 0:=⟨_,rfl⟩;rw[<-hr];have HR:=aa hr;clear hb hr;go_enter func172,ntmps172;have hm:=Own.nil w0
 go_wp2_with(first
 |(with_reducible first|refine wb hm ?_;clear hm;intro w g hm|refine aM 139 0 hm ?_ (ht:=al (F5 HL.o))))
 go_loopw[2,10] (λz u wr=>∃(k:Nat)(q:Int),k<=258/\0<=q/\q<=1000000/\u=.int .i64 k/\z=.int .i64 q/\r=kp (l.drop k) b q k/\Own w0 wr [(g,J .u8 l)] []) (λ_ u _=>258-(intOf u).toNat)
 case atStart=>exact⟨0,p,FP,p0,p1,rfl,rfl,HR.o,hm⟩
 case round=>
  clear hm;obtain⟨k,q,hk,q0,q1,rfl,rfl,hr,hm⟩:=hrel;by_cases hlt:k<258
  .have hkl:k<l.length:=by rw[HL.o];exact hlt
   have hg:(J .u8 l)[k]?=some (.int .u8 (gi l k)):=XC .u8 l k hkl;have hx:=HB.o _ (show gi l k∈l by rw[BZ l k hkl];exact dF _);rw[jg hkl,<-BZ l k hkl,kp]at hr;have w1:IntKind.i64.wrap (gi l k)=gi l k:=av;clear hx hkl;generalize gi l k=x at*;by_cases he:x=b
   .subst he;rw[aQ rfl]at hr;by_cases hz:q=0
    .subst hz;rw[aQ rfl]at hr;have HRR:=aa hr;clear hr
     go_wp2_with(first
     |with_reducible refine qS ?_;(refine A8 rfl (DZ rfl rfl rfl underlying139 FV hlt hg) ?_))
     go_ret;exact⟨by rw[HRR.o];rfl,hm.below⟩
    .rw[aP hz]at hr;have HRR:=aa hr;have z1:(q==0)=false:=by simpa using hz
     have w2:IntKind.i64.wrap (q-1)=q-1:=av;have q2:0<=q-1:=FP
     clear hr hz
     go_wp2_with(first
     |with_reducible refine qS ?_;(refine A8 rfl (DZ rfl rfl rfl underlying139 FV hlt hg) ?_))
     go_roundw
     case rel=>exact⟨k+1,q-1,FP,q2,FP,by go_num,rfl,HRR.o,hm⟩
     case measure=>simp[intOf];omega
   .rw[aP he]at hr;have HRR:=aa hr;have z1:(x==b)=false:=by simpa using he
    have z2:(x !=b)=true:=by simpa using he
    clear hr he
    go_wp2_with(first
    |with_reducible refine qS ?_;(refine A8 rfl (DZ rfl rfl rfl underlying139 FV hlt hg) ?_))
    go_roundw
    case rel=>exact⟨k+1,q,FP,q0,q1,by go_num,rfl,HRR.o,hm⟩
    case measure=>simp[intOf];omega
  .obtain rfl:k=258:=FP
   rw[Fe (by rw[HL.o];exact aX _),kp]at hr;have HRR:=aa hr;clear hr;go_wp2;go_ret;exact⟨by rw[HRR.o];rfl,hm.below⟩
def jN(h:l.length=258)(k:m.length=258):(CS l c b).size=(CS m c' b').size:=by rw[CU h,CU k]
def Yh(hl:l.length=258)(hb:Bytes l)(hk:JL l=true)(w:FC):ak 127 #[.agg (J .u8 l)] w (RB w (.tuple #[.agg (CS l 0 0),.int .i64 0])):=by
 have HL:=aa hl;have CT:=aa (λw=>table_any l w hl hb);rw[hk]at CT;clear hl hb hk;go_enter func127,ntmps127;have hm:=Own.nil w
 go_wp2_with(first
 |with_reducible refine cS ?_;(refine A8 rfl (MO rfl rfl HL.o) ?_)
 |refine UV ?_;try(clear hm;intro w gp hm))
 refine aD (Af rfl rfl (hm.row 0 rfl) (DT HL.o)) rfl ⟨rfl,hm.below⟩
end
def RN{l:ac}{c:Int}{n:Nat}(w0:FC)(hl:l.length=258)(hb:Bytes l)(hk:JL l=true)(hn:n<15)(c0:0<=c)(c1:c<2^n)(hc:pfc l n+cd l n<=c):ak 170 #[.agg (CS l c n)] w0 (RB w0 (.bool true)):=by
 have HL:=aa hl;have CT:=aa (λw=>table_any l w hl hb);have CF:=aa (λw=>first_any n w hl hb FP);rw[hk]at CT;have b1:=Jf hl hb n FP;have b2:=Jq hl hb n FP;have h3:(2:Int)^n<=2^16:=by exact_mod_cast jD (show 0<2 by decide) (show n<=16 by omega)
 have w1:IntKind.i64.wrap (pfc l n+cd l n)=pfc l n+cd l n:=av;have q1:decide ((n:Int)<0)=false:=an;have q2:decide (15<=(n:Int))=false:=an;have q3:decide (c<0)=false:=an;have q4:decide (pfc l n+cd l n<=c)=true:=aW hc;have e1:c/2^n=0:=Int.ediv_eq_zero_of_lt c0 c1;clear hl hb hk b1 b2 h3 hc c1;generalize pfc l n=x at*;generalize cd l n=y at*;go_enter func170,ntmps170;have hm:=Own.nil w0
 go_wp2_with(first
 |go_at_call 168;refine cB (CT.o _) hm ?_;clear hm;intro w1 hm
 |go_at_call 171;refine cB (CF.o _) hm ?_;clear hm;intro w1 hm
 |with_reducible refine wl 3 0 hm ?_ (hv:=Kz)
 |with_reducible refine bh (t:=139) ?_;(refine A8 rfl (cg 0 hm rfl rfl rfl (II HL.o) (F5 HL.o) (IJ HL.o)) ?_)
 |refine UV ?_;try(clear hm;intro w gp hm))
 go_ret;exact cL
section
variable{bit c:Int}{l:ac}{n:Nat}{w0:FC}
def Yf(hl:l.length=258)(hb:Bytes l)(hk:JL l=true)(hn:n<15)(c0:0<=c)(c1:c<2^n)(hc:pfc l n+cd l n<=c)(h0:0<=bit)(h1:bit<=1)(hx:pfc l (n+1)+cd l (n+1)<=2*c+bit):ak 129 #[.agg (CS l c n),.int .i64 bit] w0 (RB w0 (.tuple #[.agg (CS l (2*c+bit) (n+1)),.int .i64 0,.bool false])):=by
 have HL:=aa hl;have CV:=aa (λw=>RN w hl hb hk hn c0 c1 hc);have CF:Hid (∀w,ak 171 #[.agg (J .u8 l),.int .i64 ((n:Int)+1)] w (RB w (.tuple #[.int .i64 (pfc l (n+1)),.int .i64 (cd l (n+1))]))):=aa (λw=>first_any (n+1) w hl hb FP);have b1:=Jf hl hb (n+1) FP;have b2:=Jq hl hb (n+1) FP;have h3:(2:Int)^(n+1)<=2^16:=by exact_mod_cast jD (show 0<2 by decide) (show n+1<=16 by omega)
 have h4:(2:Int)^n<=2^16:=by exact_mod_cast jD (show 0<2 by decide) (show n<=16 by omega)
 have w1:IntKind.i64.wrap (pfc l (n+1)+cd l (n+1))=pfc l (n+1)+cd l (n+1):=av;have w2:IntKind.i64.wrap (c*2)=c*2:=av;have w3:IntKind.i64.wrap ((n:Int)+1)=(n:Int)+1:=av;have e1:bits .or .i64 (c*2) bit=2*c+bit:=bY c0 FP h0 h1;have q0:bit/2=0:=FP
 have hge:pfc l (n+1)<=2*c+bit:=by rw[pfc];omega
 have q4:decide (pfc l (n+1)+cd l (n+1)<=2*c+bit)=true:=aW hx;clear hl hb hk b1 b2 h3 h4 hc c1 hge hx;generalize pfc l (n+1)=x at*;generalize cd l (n+1)=y at*;go_enter func129,ntmps129;have hm:=Own.nil w0
 go_wp2_with(first
 |with_reducible refine bh (t:=139) ?_;(first|refine A8 rfl (cg 0 hm rfl rfl rfl (II HL.o) (F5 HL.o) (IJ HL.o)) ?_|refine A8 rfl (cg 1 hm rfl rfl rfl (II HL.o) (F5 HL.o) (IJ HL.o)) ?_)
 |with_reducible refine cS ?_;(refine A8 rfl (Kq rfl rfl rfl rfl HL.o) ?_)
 |refine UV ?_;try(clear hm;intro w gp hm))
 exact E6
def Yg(hl:l.length=258)(hb:Bytes l)(hk:JL l=true)(hn:n<15)(c0:0<=c)(c1:c<2^n)(hc:pfc l n+cd l n<=c)(h0:0<=bit)(h1:bit<=1)(hx:¬pfc l (n+1)+cd l (n+1)<=2*c+bit):ak 129 #[.agg (CS l c n),.int .i64 bit] w0 (RB w0 (.tuple #[.agg (CS l 0 0),.int .i64 (kp l (n+1) (2*c+bit-pfc l (n+1)) 0),.bool true])):=by
 have HL:=aa hl;have CV:=aa (λw=>RN w hl hb hk hn c0 c1 hc);have CF:Hid (∀w,ak 171 #[.agg (J .u8 l),.int .i64 ((n:Int)+1)] w (RB w (.tuple #[.int .i64 (pfc l (n+1)),.int .i64 (cd l (n+1))]))):=aa (λw=>first_any (n+1) w hl hb FP);have b1:=Jf hl hb (n+1) FP;have b2:=Jq hl hb (n+1) FP;have h3:(2:Int)^(n+1)<=2^16:=by exact_mod_cast jD (show 0<2 by decide) (show n+1<=16 by omega)
 have h4:(2:Int)^n<=2^16:=by exact_mod_cast jD (show 0<2 by decide) (show n<=16 by omega)
 have w1:IntKind.i64.wrap (pfc l (n+1)+cd l (n+1))=pfc l (n+1)+cd l (n+1):=av;have w2:IntKind.i64.wrap (c*2)=c*2:=av;have w3:IntKind.i64.wrap ((n:Int)+1)=(n:Int)+1:=av;have e1:bits .or .i64 (c*2) bit=2*c+bit:=bY c0 FP h0 h1;have q0:bit/2=0:=FP
 have hge:pfc l (n+1)<=2*c+bit:=by rw[pfc];omega
 have q4:decide (pfc l (n+1)+cd l (n+1)<=2*c+bit)=false:=aU hx;have w4:IntKind.i64.wrap (2*c+bit-pfc l (n+1))=2*c+bit-pfc l (n+1):=av;have CO:=aa (λw=>XW (n+1) (2*c+bit-pfc l (n+1)) w hl hb FP FP);clear hl hb hk b1 b2 h3 h4 hc c1 hge hx;generalize kp l (n+1) (2*c+bit-pfc l (n+1)) 0=z at*;generalize pfc l (n+1)=x at*;generalize cd l (n+1)=y at*;go_enter func129,ntmps129;have hm:=Own.nil w0
 go_upto_region 7 with(first
  |go_at_call 170;refine cB (CV.o _) hm ?_;clear hm;intro w1 hm
  |go_at_call 171;refine cB (CF.o _) hm ?_;clear hm;intro w1 hm
  |with_reducible refine wb hm ?_;clear hm;intro w g hm
  |with_reducible refine na ?_;(with_reducible refine wa _ hm QA ?_;clear hm;intro w g2 hm)
  |with_reducible (first|refine wl 3 0 hm ?_ (hv:=Kz)|refine wl 3 1 hm ?_ (hv:=Kz))
  |with_reducible refine aM 143 1 hm ?_ (ht:=al (DT HL.o))
  |with_reducible refine bh (t:=139) ?_;(first|refine A8 rfl (cg 0 hm rfl rfl rfl (II HL.o) (F5 HL.o) (IJ HL.o)) ?_|refine A8 rfl (cg 1 hm rfl rfl rfl (II HL.o) (F5 HL.o) (IJ HL.o)) ?_)
  |with_reducible refine cS ?_;(refine A8 rfl (Kq rfl rfl rfl rfl HL.o) ?_)
  |with_reducible refine ws 143 0 hm ?_ (ht:=al (DT HL.o)) (hs:=al (jN HL.o Az)) (h1:=al Eb);clear hm;intro w hm)
 refine rO hm 12 (.am [(0,false),(1,true),(2,false),(3,false),(4,true),(5,false),(6,true),(7,false),(8,true),(9,false),(10,false)] (.one 11 (.brk 12 15 (.am [(13,false),(14,false)] .done)))) ?_;clear hm;intro w hm;simp only[KT.am];refine kq ?_;refine km (λW hm=>cg 1 hm rfl rfl rfl (II HL.o) (F5 HL.o) (IJ HL.o)) ?_
 refine bj rfl rfl (λW=>MO rfl rfl HL.o) ?_
 try simp only[Act.put,s3]
 refine kq ?_;refine km (λW hm=>cg 0 hm rfl rfl rfl (II HL.o) (F5 HL.o) (IJ HL.o)) ?_;refine kq ?_;refine km (λW hm=>ld 0 hm rfl rfl rfl (ot rfl) (Mc HL.o)) ?_;refine kq ?_;refine km (λW hm=>ld 0 hm rfl rfl rfl (ot rfl) (LZ HL.o)) ?_;refine kq ?_
 refine bj rfl rfl (λW=>by go_simp;(rfl)) ?_
 try simp only[Act.put,s3]
 refine DJ rfl rfl (λK hK=>?_);go_simp;refine cB (CO.o _) hm ?_;clear hm;intro w1 hm;refine hK _ _ ⟨λW=>Own _ W _ _,λ_ h=>h,hm,?_⟩;clear hK K
 refine Em rfl rfl (Aw 0 hm rfl rfl (Ac rfl) rfl (DT HL.o) (jN HL.o HL.o) Eb ?_)
 clear hm;intro w hm
 try simp only[puts,s2,List.set,List.eraseIdx,s3]at hm
 refine⟨λW=>Own _ W _ _,hm,?_⟩
 try simp only[Act.put,s3]
 iterate 2 refine kq ?_
 refine Ba ?_;go_simp;go_wp2;exact E6
def aR(l:ac)(c:Int)(n:Nat)(bit:Int):Int×Nat×Int×Bool:=
 if pfc l (n+1)+cd l (n+1)<=2*c+bit then(2*c+bit,n+1,0,false)else(0,0,kp l (n+1) (2*c+bit-pfc l (n+1)) 0,true)
structure Uk(l:ac)(c:Int)(n:Nat):Prop where
 len:l.length=258
 byt:Bytes l
 tab:JL l=true
 bit:n<15
 pos:0<=c
 lt:c<2^n
 ge:pfc l n+cd l n<=c
def O'(bit:Int)(h:Uk l c n)(h0:0<=bit)(h1:bit<=1)(w:FC):ak 129 #[.agg (CS l c n),.int .i64 bit] w (RB w (.tuple #[.agg (CS l (aR l c n bit).1 (aR l c n bit).2.1),.int .i64 (aR l c n bit).2.2.1,.bool (aR l c n bit).2.2.2])):=by
 rw[aR];by_cases hx:pfc l (n+1)+cd l (n+1)<=2*c+bit
 .rw[aQ hx];exact Yf h.len h.byt h.tab h.bit h.pos h.lt h.ge h0 h1 hx
 .rw[aP hx];exact Yg h.len h.byt h.tab h.bit h.pos h.lt h.ge h0 h1 hx
end
open Go Go.RowKit
section
variable{bit n:Int}{c l:ac}
def cw(c:ac):Int:=gi c 1*16384+gi c 2*8192+gi c 3*4096+gi c 4*2048+gi c 5*1024+gi c 6*512+gi c 7*256+gi c 8*128+gi c 9*64+gi c 10*32+gi c 11*16+gi c 12*8+gi c 13*4+gi c 14*2+gi c 15
def Qk(hc:c.length=16)(h0:0<=n)(h1:n<=15):cw (cnt1 c n)=cw c+share n:=by
 rw[cnt1,aQ FP];have e:n=0\/n=1\/n=2\/n=3\/n=4\/n=5\/n=6\/n=7\/n=8\/n=9\/n=10\/n=11\/n=12\/n=13\/n=14\/n=15:=FP
 rcases e with rfl|rfl|rfl|rfl|rfl|rfl|rfl|rfl|rfl|rfl|rfl|rfl|rfl|rfl|rfl|rfl
 all_goals
  simp only[cw];rw[DY Gs,DY Gs,DY Gs,DY Gs,DY Gs,DY Gs,DY Gs,DY Gs,DY Gs,DY Gs,DY Gs,DY Gs,DY Gs,DY Gs,DY Gs];simp[share]
  try omega
def wU{l:ac}(hb:Bytes l):∀k,k<=l.length->J6 l k<=32768->cw (Ji (l.take k))=J6 l k
|0,_,_=>by
  have:Ji (l.take 0)=se:=rfl;rw[this];simp[J6];decide
|k+1,h,hs=>by
  have hk:=Pq l k h;have hx:=hb (gi l k) (by rw[BZ l k h];exact dF _);have b1:=KE (gi l k);have b2:=Nz l k FP
  have h15:gi l k<=15:=by
   by_cases hn:gi l k<=15
   .exact hn
   .have:share (gi l k)=32769:=by rw[share,aP FP,aQ FP]
    omega
  rw[Pv l k h,Qk (QU hb k FP).1 hx.1 h15,wU hb k FP FP,hk]
def a1u(hl:l.length=258)(hb:Bytes l)(hk:JL l=true):pfc l 15+cd l 15=32768:=by
 have hs:J6 l 258=32768:=by
  rw[JL,cR,iI]at hk;exact hk.1
 have h:=wU hb 258 FP FP;rw[jC FP,hs]at h;rw[<-h];simp[pfc,cd,cw];omega
def Uk.zero(hl:l.length=258)(hb:Bytes l)(hk:JL l=true):Uk l 0 0:=⟨hl,hb,hk,FU,FU,FU,by simp[pfc,cd]⟩
def Uk.next{c:Int}{n:Nat}(h:Uk l c n)(h0:0<=bit)(h1:bit<=1):Uk l (aR l c n bit).1 (aR l c n bit).2.1:=by
 rw[aR];split
 .rename_i hx;have hp:=h.pos;have hlt:=h.lt;have h2:2*c+bit<2^(n+1):=by rw[Int.pow_succ];omega
  refine⟨h.len,h.byt,h.tab,?_,by simp only;omega,h2,hx⟩;have hn:=h.bit;by_cases e:n+1<15
  .exact e
  .obtain rfl:n=14:=FP
   have:=a1u h.len h.byt h.tab;have h3:2*c+bit<32768:=by simpa using h2
   have h4:pfc l 15+cd l 15<=2*c+bit:=hx;omega
 .exact Uk.zero h.len h.byt h.tab
end
section
variable{k:Ob}{a b m n q:Nat}{w:FC}
def sJ(hz:m=0)(hn:1<=n):ak 163 #[.agg (SP a n),.agg (SP b m)] w (RB w (.bool true)):=by
 subst hz;have q0:((n:Int)==0)=false:=by simp;omega
 clear hn;go_enter func163,ntmps163;have hm:=Own.nil w
 exact te
def a0T(hz:1<=m)(hn:1<=n)(ha:a+n<=b)(hb:b<=1048576):ak 163 #[.agg (SP a n),.agg (SP b m)] w (RB w (.bool true)):=by
 have q0:((n:Int)==0)=false:=by simp;omega
 have q1:((m:Int)==0)=false:=by simp;omega
 have w1:IntKind.i64.wrap ((a:Int)+n)=(a:Int)+n:=av;have q2:decide ((a:Int)+n<=b)=true:=az;clear hn hz ha hb;go_enter func163,ntmps163;have hm:=Own.nil w
 exact te
def a0A(a:Nat)(m:Nat)(hn:1<=n)(ha:a+n<=b)(hb:b<=1048576)(w:FC):ak 163 #[.agg (SP a n),.agg (SP b m)] w (RB w (.bool true)):=by
 by_cases h:m=0
 .exact sJ h hn
 .exact a0T FP hn ha hb
def ri{a b:Int}(h:a=b):Ending.returned (.int k a)=.returned (.int k b):=by rw[h]
def a0G{d:Nat}(hqd:q=n/d)(h1:n<=65536)(h2:1<=d)(h3:d<=65536)(w:FC):ak 164 #[.int .i64 n,.int .i64 d] w (RW w (.int .i64 ((1024*q:Nat):Int))):=by
 have hq:q<=n:=by rw[hqd];exact xO n d
 have e1:(n:Int).tdiv d=(q:Int):=by rw[hqd];rfl
 have e2:(n:Int)/d=(q:Int):=by rw[hqd];rfl
 clear hqd;have w1:wi n 0 65536=true:=Eu FP FP;have w2:wi d 1 65536=true:=Eu FP FP;have q0:((d:Int)==0)=false:=by simp;omega
 have q0b:(d:Int)≠0:=FP
 have w3:IntKind.i64.wrap (q:Int)=(q:Int):=av;have w4:IntKind.i64.wrap ((q:Int)*1024)=((1024*q:Nat):Int):=by rw[aZ _ FP];push_cast;omega
 go_enter func164,ntmps164
 go_wp2_with(first
  |go_at_call 119;refine MW QK ?_)
 go_ret;exact⟨ri (by push_cast;omega),rfl⟩
end
structure nC(live:Int)(a n b m d:Nat):Prop where
 n1:1<=n
 n2:n<=65536
 d1:1<=d
 d2:d<=65536
 ap:a+n<=b
 fit:(b:Int)+m<=live
 big:1024*(n/d)<=m
 lim:live<=1048576
def lD{ga:Nat}{dv:NY}{live peak:Int}{a n b m d:Nat}(h:nC live a n b m d){w0:FC}(hr:AA w0 ga (AR dv live peak)):ak 118 #[ga,.agg (SP a n),.agg (SP b m),.int .i64 d] w0 (RB w0 (.bool true)):=by
 obtain⟨n1,n2,d1,d2,ap,fit,big,lim⟩:=h;have CH:Hid (∀W(x y:Nat),(x=a/\y=n\/x=b/\y=m)->Below w0.heap.size w0 W->ak 64 #[ga,.agg (SP x y)] W (RB W (.bool true))):=λW x y hxy h=>vZ (hr.keep W h) FP FP FP lim;have CA:=aa (λw=>a0A a m n1 ap FP w);obtain⟨q,hq⟩:∃q:Nat,q=n/d:=⟨_,rfl⟩;have CS:=aa (λw=>a0G hq n2 d1 d2 w);rw[<-hq]at big;have w1:wi n 1 65536=true:=Eu FP FP;have w2:wi d 1 65536=true:=Eu FP FP;have q1:decide (((1024*q:Nat):Int)<=m)=true:=az;have q3:decide (1024*(q:Int)<=m)=true:=az;have q2:decide (1024*q<=m)=true:=aW big;clear hr n1 n2 d1 d2 ap fit lim hq big;go_enter func118,ntmps118;have hm:=Own.nil w0
 go_upto_region 3 with(first
  |go_at_call 64;refine cB (CH.o _ _ _ LP hm.below) hm ?_;clear hm;intro w1 hm
  |go_at_call 119;refine MW QK ?_
  |with_reducible refine wb hm ?_;clear hm;intro w g hm
  |with_reducible (first|refine wl 3 0 hm ?_ (hv:=Gm)|refine wl 3 1 hm ?_ (hv:=Gm))
  |with_reducible (first|refine aM 50 0 hm ?_ (ht:=al Eo)|refine aM 50 1 hm ?_ (ht:=al Eo)))
 refine rO hm 13 (.am [(0,true),(1,true)] (.one 2 (.am [(3,false),(4,false),(5,true),(6,false),(7,true),(8,false)] (.one 9 (.am [(10,false),(11,false),(12,false)] .done))))) ?_;clear hm;intro w hm;simp only[KT.am];refine km (λW hm=>eK 1 hm rfl rfl rfl Eo) ?_;refine km (λW hm=>eK 0 hm rfl rfl rfl Eo) ?_;refine DJ rfl rfl (λK hK=>?_);go_simp;refine cB (CA.o _) hm ?_;clear hm;intro w1 hm;refine hK _ _ ⟨λW=>Own _ W _ _,λ_ h=>h,hm,?_⟩;clear hK K
 try simp only[Act.put,s3]
 refine kq ?_
 (first|refine kq ?_|refine Bz rfl rfl ?_)
 try simp only[Act.put,s3]
 (first|refine eO rfl rfl (λW hm=>ld 0 hm rfl rfl rfl (ot rfl) lN) ?_|refine D6 rfl rfl ?_)
 try simp only[Act.put,s3]
 (first|refine kq ?_|refine Bz rfl rfl ?_)
 try simp only[Act.put,s3]
 (first|refine eO rfl rfl (λW hm=>ld 1 hm rfl rfl rfl (ot rfl) lN) ?_|refine D6 rfl rfl ?_)
 try simp only[Act.put,s3]
 (first|refine kq ?_|refine Bz rfl rfl ?_)
 try simp only[Act.put,s3]
 refine DJ rfl rfl (λK hK=>?_);go_simp;refine MW (CS.o _) ?_;refine hK _ _ ⟨λW=>Own _ W _ _,λ_ h=>h,hm,?_⟩;clear hK K
 try simp only[Act.put,s3]
 (first|refine kq ?_|refine Bz rfl rfl ?_)
 exact y7
end Go.Proofs.YtkpbhdhkdonghaaGreat
