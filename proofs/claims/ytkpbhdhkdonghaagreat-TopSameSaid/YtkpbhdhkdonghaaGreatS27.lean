/- Part 27 of the proof. -/
import Derived.Test.YtkpbhdhkdonghaaGreatS25
import Derived.Test.YtkpbhdhkdonghaaGreatS26
set_option linter.all false
set_option maxHeartbeats 8000000
set_option maxRecDepth 100000
namespace Go.Proofs.YtkpbhdhkdonghaaGreat
open Go Tryz Go.RowKit
section
variable{bg cl:Bool}{ca cb live mode peak:Int}{sp x:ac}{ss:O1}{T:ar}{N c ga ge gs gx k n rn sc sr:Nat}{rs:ae}{w w0:FC}
def Xq{d:ac}(hx:1<=x.length)(hxn:x.length<=n)(hx4:x.length<=1000)(hn:n<=65536)(hk:2<k)(hs:k*2<=sp.length)(h0:gi sp 0=0)(h2:gi sp 2=sc)(h4:gi sp 4=sr)(h5:gi sp 5=rn)(hN:(x++d).length=N)(hN2:N<=1048576)(hc1:n<=sc)(hc2:sc+n<=sr)(hr:4*(x.length+1)<=rn)(hl1:(sr:Int)+rn<=live)(hl2:live<=N)(hb:Bytes (x++d))(hm:Own w0 w (bB ge ga gs gx n x.length mode k c cb ca bg cl sp T live peak N (x++d) rs) ss):ak 151 #[ge] w λe w'=>∃l',e=.returned (.tuple #[.agg #[.int .i64 sc,.int .i64 x.length],.int .i64 (cF x).2])/\EO N sc x l'/\Own w0 w' (bB ge ga gs gx n x.length mode k c cb ca bg cl sp T live peak N l' rs) ss:=by
 obtain⟨m,hmm⟩:∃m,m=x.length:=⟨_,rfl⟩
 have CP:Hid (∀W(z:Int)g cs l,z=0->Own w0 W ((g,cs)::bB ge ga gs gx n m mode k c cb ca bg cl sp T live peak N l rs) ss->ak 187 #[ge,.int .i64 z] W (RO (.agg #[.int .i64 0,.int .i64 m]) w0 ((g,cs)::bB ge ga gs gx n m mode k c cb ca bg cl sp T live peak N l rs) ss)):=λW z g cs l hz h=>by
  subst hz;have:=zg (i:=0) FP hs (fB _ eP) (fB _ (fB _ eP)) h;rw[qj,h0]at this;exact this
 have CQ:Hid (∀W(z:Int)g cs l,z=1->Own w0 W ((g,cs)::bB ge ga gs gx n m mode k c cb ca bg cl sp T live peak N l rs) ss->ak 187 #[ge,.int .i64 z] W (RO (.agg #[.int .i64 sc,.int .i64 m]) w0 ((g,cs)::bB ge ga gs gx n m mode k c cb ca bg cl sp T live peak N l rs) ss)):=λW z g cs l hz h=>by
  subst hz;have:=zg (i:=1) FP hs (fB _ eP) (fB _ (fB _ eP)) h;rw[Nat.one_mul,h2]at this;exact this
 have CT:Hid (∀W g cs,Own w0 W ((g,cs)::bB ge ga gs gx n m mode k c cb ca bg cl sp T live peak N (x++d) rs) ss->ak 188 #[ga,.agg #[.int .i64 0,.int .i64 m],.agg #[.int .i64 sc,.int .i64 m],.agg #[.int .i64 sr,.int .i64 rn]] W λe w'=>∃(st:Int)(l':ac),e=.returned (.tuple #[.int .i64 (cF x).2,.int .i64 st,.int .i64 0])/\EO N sc x l'/\Own w0 w' ((g,cs)::bB ge ga gs gx n m mode k c cb ca bg cl sp T live peak N l' rs) ss):=λW g cs h=>by
  have h:=h.perm (sT _ _ _ _ _ _).symm;rw[<-hN]at h;refine(Td (L:=N) (tn:=m) (ta:=0) (ca:=sc) (ra:=sr) (rn:=rn) (N:=m+1) (live:=live) (x:=x) (x++d) h hN hb hmm.symm (λj hj=>by rw[dA,KM FP]) ⟨FP,FP,FP,FP,FP,FP⟩ FP FP FP rfl).mono ?_;rintro e w'⟨st,l',rfl,hO,h2⟩;have hlen:l'.length=N:=hO.len;refine⟨st,l',rfl,⟨hlen,hO.byt,?_⟩,?_⟩
  .have hlc:=(pu x).1;refine IA (by rw[QJ FP,hlc];omega) λi hi=>?_;rw[QJ FP]at hi;rw[zS FP FP];exact hO.col i FP
  .rw[hlen]at h2;exact h2.perm (sT _ _ _ _ _ _)
 have hs4:(IR .i64 sp T).toList[0+2*2]?=some (.int .i64 sr):=by rw[cE,kz FP,<-h4]
 have hs5:(IR .i64 sp T).toList[0+2*2+1]?=some (.int .i64 rn):=by rw[cE,kz FP,<-h5]
 have HS4:=aa hs4;have HS5:=aa hs5;rw[<-hmm]at hm hr hx4⊢;clear hs h0 h2 h4 h5 hN hb hmm hs4 hs5;go_enter func151,ntmps151
 go_wp2_with(first
 |((with_reducible refine g5 ?_);refine uT [5,7] [0,1,2,3,4,6,8,9,10,11,12,13,5,7,14,15,16,17,18,19,20,21] hm ?_;clear hm;intro w _ hm)
 |refine xJ 2 ?_
 |((with_reducible refine g7 ?_);refine uM (hl:=.two (ag rfl) HS4.o HS5.o) ?_)
 |go_at_call 187;refine MP (CP.o _ _ _ _ _ JA hm) ?_;clear hm;intro w hm
 |go_at_call 187;refine MP (CQ.o _ _ _ _ _ JA hm) ?_;clear hm;intro w hm
 |go_at_call 188;refine(CT.o _ _ _ hm).mono ?_;clear hm;rintro e w⟨st,l',rfl,hEO,hm⟩
 |refine U ?_;try(clear hm;intro w gp hm))
 exact Fl
end
section
variable{bg cl:Bool}{ca cb live mode peak:Int}{l sp:ac}{ss:O1}{T:ar}{N c ga ge gs gx k m n:Nat}{rs:ae}{w w0:FC}
def bq(n:Nat)(bg:Bool):ac:=if bg=true then[]else[87,80,1]++cn n
def mC(hn:n<=65536)(bg:Bool):(bq n bg).length<=8:=by
 have:=(ka n FP).1;unfold bq;split<;>simp<;>omega
def E1(hn0:1<=n)(hn:n<=65536)(hm:Own w0 w (bB ge ga gs gx n m mode k c cb ca bg false sp T live peak N l rs) ss):ak 111 #[ge] w λe w'=>∃X v,e=.returned (.tuple #[v,.bool true])/\Lies 1 X v (bq n bg).length (vs .u8 (bq n bg))/\Own w0 w' (bB ge ga gs gx n m mode k c cb ca true false sp T live peak N l (X++rs)) ss:=by
 have CH:Hid (∀W rs,Own w0 W rs ss->ak 149 #[.agg #[.int .i64 n]] W (kh w0 ([87,80,1]++cn n) (.int .i64 0) rs ss)):=λW rs h=>hput hn0 hn h;cases bg with
|true=>
  go_enter func111,ntmps111
  go_wp2_with(first
  |refine U ?_;try(clear hm;intro w gp hm))
  go_ret2
  exact⟨[],_,rfl,Lies.nil 1,hm⟩
|false=>
  have HO:Hid ([87,80,1]++cn n=bq n false):=aa rfl;rw[HO.o]at CH;generalize bq n false=h0 at*;go_enter func111,ntmps111
  go_wp2_with(first
  |(go_at_call 149;refine(CH.o _ _ hm).mono ?_;clear hm;rintro e w⟨X,v,rfl,hX,hm⟩;obtain⟨ad,c2,rfl⟩:=hX.shape;have HX:=aa hX;clear hX)
  |refine U ?_;try(clear hm;intro w gp hm))
  go_ret2
  exact⟨X,_,rfl,HX.o,hm.perm (iy [_,_,_,_] X rs)⟩
def a1B(hm:Own w0 w ((ge,gm n m mode ga gs k c cb ca bg cl)::rs) ss):ak 57 #[ge] w (RO (.int .u8 mode) w0 ((ge,gm n m mode ga gs k c cb ca bg cl)::rs) ss):=by
 go_enter func57,ntmps57
 go_wp2_with(refine U ?_;try(clear hm;intro w gp hm))
 exact gR
def DQ(hm:Own w0 w (bB ge ga gs gx n m mode k c cb ca bg cl sp T live peak N l rs) ss):ak 54 #[ge] w (RO (.int .i64 peak) w0 (bB ge ga gs gx n m mode k c cb ca bg cl sp T live peak N l rs) ss):=by
 go_enter func54,ntmps54
 go_wp2_with(first
 |go_at_call 97;refine MW (Lb (hm.row 2 rfl)) ?_
 |refine U ?_;try(clear hm;intro w gp hm))
 exact gR
end
open Go Go.RowKit
section
variable{z:Int}{b bs c l t:ac}
def wv:∀(k n:Nat),∀x∈j6 k n,0<=x/\x<2
|0,_,x,h=>by cases h
|k+1,n,x,h=>by
  rw[j6]at h;split at h
  .cases h
  .rcases dh.1 h with rfl|h
   .omega
   .exact wv k _ x h
def we:∀(b l:ac)(r:Nat)(out:ac),Vl l->Bytes b->lr out->lr (cG b l r out).2.2
|[],_,_,_,_,_,h=>h
|c::b,l,r,out,hl,hb,h=>by
  have hb2:Bytes b:=λx hx=>hb x (fB _ hx);have hc:=hb c eP;have hp:=ID hl hc.1 FP;rw[cG];split
  .exact we b _ _ _ (hl.el c) hb2 h
  .refine we b _ _ _ (hl.el c) hb2 (λx hx=>?_);rcases dG.1 hx with hx|hx
   .rcases dG.1 hx with hx|hx
    .exact h x hx
    .have:=wv _ _ x hx;omega
   .rw[fC.1 hx];omega
def Ek(hb:Bytes b):lr (eD b):=λx hx=>by
 rcases dG.1 hx with hx|hx
 .exact we b new 0 [] nl hb (λy hy=>by cases hy) x hx
 .rcases dG.1 hx with hx|hx
  .have:=wv _ _ x hx;omega
  .rw[fC.1 hx];decide
def wx(hb:b.length<=1000):0<(eD b).length/\(eD b).length<=32*b.length+32:=by
 have h1:=rT b new 0 [] FP;have h2:=th b new 0 [];have h3:=nc 31 (cG b new 0 []).2.1 FP;rw[eD,aV,aV];simp only[bD,bW]at*;omega
def Adr(l:ac):0<gi (tally (l++[257])) 257\/¬(tally l).length=258\/¬∀x∈tally l,0<=x:=by
 by_cases h1:(tally l).length=258
 .by_cases h2:∀x∈tally l,0<=x
  .left;have e:tally (l++[257])=ll (tally l) 257:=by rw[tally,lG];rfl
   rw[e,ll,show(257:Int).toNat=257 from rfl,DY FP,aQ rfl];have:=h2 _ (cI (tally l) 257 FP);omega
  .exact .inr (.inr h2)
 .exact .inr (.inl h1)
def BT(hb:Bytes b)(hn:b.length<=1000):(tally (eD b)).length=258/\(∀x∈tally (eD b),0<=x/\x<=2147483647)/\0<(cK (tally (eD b)) 258).length:=by
 have hs:=Ek hb;have hl:=wx hn;have h1:=qv (eD b) hs (eD b).length (aX _);rw[gY]at h1;refine⟨h1.1,λx hx=>by have:=h1.2 x hx;omega,yk (a:=257) ?_ FU⟩;obtain⟨u,hu⟩:∃u,eD b=u++[257]:=⟨_,(aI _ _ _).symm⟩;have hs2:lr u:=λx hx=>hs x (by rw[hu];exact jU _ hx);have h2:=qv u hs2 u.length (aX _);rw[gY]at h2;rw[hu];exact(Adr u).resolve_right λh=>h.elim (λh=>h h2.1) λh=>h λx hx=>(h2.2 x hx).1
def zw(h:Bytes l){v:Int}(h0:0<=v)(h1:v<256)(i:Nat):Bytes (l.set i v):=λx hx=>by
 rcases kV hx with hx|rfl
 .exact h x hx
 .exact⟨h0,h1⟩
def A6:Bytes Hf:=λx hx=>by rw[uU hx];decide
def C4:0<=IntKind.u8.wrap z/\IntKind.u8.wrap z<256:=by
 have:IntKind.u8.wrap z=z%256:=rfl;omega
def tQ(o:ac)(row:List bR){l:ac}(h:Bytes l):∀i,Bytes (eT o row l i).2
|0=>h
|i+1=>by
  rw[eT];split
  .exact zw (tQ o row h i) (C4).1 (C4).2 _
  .exact tQ o row h i
def Dg(t o:ac):∀j,Bytes (dE t o j).2
|0=>A6
|j+1=>by rw[dE];exact tQ _ _ (Dg t o j) _
def xM(t:ac):(gj t).length=258/\Bytes (gj t):=by
 rw[gj];split
 .exact⟨by rw[cO,Az],zw A6 FU FU _⟩
 .exact⟨vR _ _ _,Dg _ _ _⟩
def mI(c:ac):ac:=kg (gj (tally (eD c))) (eD c) (iA (gj (tally (eD c))) [])
def nj(x:ac)(s:Int):ac:=mH x.length (cF x).2 s++pack (mI (cF x).1)
def tR(hl:t.length=258)(hb:Bytes t):Bits (iA t [])/\(iA t []).length<=134200:=by
 rw[iA];split
 .refine⟨λx hx=>by rw[iY]at hx;exact ww t 258 x hx,?_⟩;have:=vL hl hb (k:=258) FP;rw[iY];omega
 .exact⟨λx hx=>(by cases hx),dD _⟩
def IH(hl:t.length=258):(kg t l bs).length<=bs.length+15*l.length:=by
 rw[kg];split
 .rename_i h
  have hk:J6 t 258<=32768:=by
   rw[gS,cR]at h;exact eF h.1
  refine ui t _ l bs (λa=>?_) _;exact KK
 .omega
def RT(hc:c.length<=150):(mI c).length<=206700:=by
 have h1:=(xM (tally (eD c)));have h2:=IH (l:=eD c) (bs:=iA (gj (tally (eD c))) []) h1.1;have h3:=(tR h1.1 h1.2).2;have h4:=(wx (b:=c) FP).2;rw[mI];omega
end
section
variable{bs l m:ac}{gw:Nat}{F R:ae}{w':FC}
structure lh(n:Nat)(mode:Int)(k:Nat)(sp:ac)(live:Int)(N:Nat):Prop where
 n1:1<=n
 n2:n<=65536
 k0:0<k
 ks:k*2<=sp.length
 s0:gi sp 0=0
 s1:gi sp 1=n
 l1:(n:Int)<=live
 l2:live<=N
 N2:N<=1048576
 md:mode=1\/mode=2\/(mode=3/\2<k/\∃sc sr rn:Nat,gi sp 2=sc/\gi sp 4=sr/\gi sp 5=rn/\n<=sc/\sc+n<=sr/\4*(min n 150+1)<=rn/\(sr:Int)+rn<=live)
def Own.RE{w0 w:FC}{rs:ae}{ss:O1}(h:Own w0 w rs ss){x:Ending}(hb:E' w l x w'):∃X v,x=.returned v/\Lies 1 X v l.length (vs .i64 l)/\Own w0 w' (X++rs) ss:=by
 obtain⟨⟨v,rfl,ho⟩,hb⟩:=hb;have ho':w'.ownsRow w.heap.size 3 1 v (vs .i64 l).length (vs .i64 l):=by rw[Ai];exact ho
 exact G'
def kT(w0 w:FC)(F:ae)(gw:Nat)(bs:ac)(R:ae)(ss:O1):Prop:=∃X u,Lies 1 X u (pack bs).length (vs .u8 (pack bs))/\Own w0 w (F++((gw,#[u,.int .i64 bs.length])::(X++R))) ss
def kT.vu{w0 w:FC}{ss:O1}(h:kT w0 w F gw bs R ss):gH w0 w gw bs (F++R) ss:=by
 obtain⟨X,u,hX,hm⟩:=h;exact⟨X,u,hX,hm.perm (iy (_::X) F R)⟩
def gH.yf{w0 w:FC}{ss:O1}(h:gH w0 w gw bs (F++R) ss):kT w0 w F gw bs R ss:=by
 obtain⟨X,u,hX,hm⟩:=h;exact⟨X,u,hX,hm.perm (iy F (_::X) R)⟩
def U7(w:FC):(zeroValue 139).run prog w=.ok (.agg (J .u8 Hf)) w:=FZ
def AhE(hl:l.length=258)(hm:m.length=258):jx prog 227 (J .i64 l) 0 (.agg (J .i64 m)) (J .i64 m):=
 .all (us:=vs .i64 m) (by rw[Ai,hm];exact Ff) KO k9
abbrev Mw(ge:Nat):ar:=[.int .u8 3,.func (.func 151) #[.pointer (some ⟨ge,0,none⟩)] #[],.int .u8 2,.func (.func 150) #[.pointer (some ⟨ge,0,none⟩)] #[],.int .u8 1,.func (.func 150) #[.pointer (some ⟨ge,0,none⟩)] #[]]
section
variable{ge ga gs gx n:Nat}{mode:Int}{k c:Nat}{cb ca:Int}{bg cl:Bool}{sp:ac}{T:ar}{live peak:Int}{N:Nat}{x d:ac}{w0 w:FC}{rs:ae}{ss:O1}
def a1o(hE:lh n mode k sp live N)(hx:1<=x.length)(hxn:x.length<=n)(hx4:x.length<=150)(hN:(x++d).length=N)(hb:Bytes (x++d)):∃fE,(∀args w,(callFunc fE args).run prog w=.ok (.enter fE args) w)/\((∃p∈BN (Mw ge),p.1=.int .u8 mode)/\∀p∈BN (Mw ge),p.1=.int .u8 mode->p.2=.func (.func fE) #[.pointer (some ⟨ge,0,none⟩)] #[])/\(Lit.int .u8 mode).wf=true/\
  ∀(w:FC)(rs:ae)(ss:O1),Own w0 w (bB ge ga gs gx n x.length mode k c cb ca bg cl sp T live peak N (x++d) rs) ss->ak fE #[.pointer (some ⟨ge,0,none⟩)] w λe w'=>∃(a:Nat)(l':ac),e=.returned (.tuple #[.agg (SP a x.length),.int .i64 (cF x).2])/\EO N a x l'/\(a:Int)+x.length<=live/\Own w0 w' (bB ge ga gs gx n x.length mode k c cb ca bg cl sp T live peak N l' rs) ss:=by
 have h1:=hE.n2;have h2:=hE.l1;rcases hE.md with rfl|rfl|⟨rfl,k2,sc,sr,rn,e2,e4,e5,c1,c2,c3,c4⟩
 .exact Nt
 .exact Nt
 .refine⟨151,enters_of func151 FZ rfl,Bh rfl rfl,rfl,λw rs ss hm=>(Xq hx hxn FP hE.n2 k2 hE.ks hE.s0 e2 e4 e5 hN hE.N2 c1 c2 FP c4 hE.l2 hb hm).mono ?_⟩;rintro e w'⟨l',rfl,h,hm⟩;exact⟨sc,l',rfl,h,FP,hm⟩
def Ma(hE:lh n mode k sp live N)(hx:1<=x.length)(hxn:x.length<=n)(hx4:x.length<=150)(hN:(x++d).length=N)(hb:Bytes (x++d))(b0:0<=cb)(b1:cb<=4294967295)(hm:Own w0 w (bB ge ga gs gx n x.length mode k c cb ca bg cl sp T live peak N (x++d) rs) ss):ak 112 #[.pointer (some ⟨ge,0,none⟩)] w λe w'=>∃X v l',e=.returned v/\Lies 1 X v (nj x.reverse cb).length (vs .u8 (nj x.reverse cb))/\l'.length=N/\Bytes l'/\Own w0 w' (bB ge ga gs gx n 0 mode k c 0 ca bg cl sp T live peak N l' (X++rs)) ss:=by
 have hb2:Bytes (x.reverse++d):=λy hy=>hb y (by simpa using hy);have hN2:(x.reverse++d).length=N:=by simpa using hN
 obtain⟨fE,he,HLk,hwf,CE⟩:=a1o (ge:=ge) (ga:=ga) (gs:=gs) (gx:=gx) (c:=c) (cb:=cb) (ca:=ca) (bg:=bg) (cl:=cl) (T:=T) (peak:=peak) (w0:=w0) (x:=x.reverse) (d:=d) hE (by simpa using hx) (by simpa using hxn) (by simpa using hx4) hN2 hb2;have CT:Hid (∀{w:FC}{ss:O1},Own w0 w (bB ge ga gs gx n x.length mode k c cb ca bg cl sp T live peak N (x++d) rs) ss->ak 152 #[.pointer (some ⟨ge,0,none⟩)] w λe w'=>(∃u,e=.returned u)/\Own w0 w' (bB ge ga gs gx n x.length mode k c cb ca bg cl sp T live peak N (x.reverse++d) rs) ss):=λhm=>Sb hx hxn hE.k0 hE.ks hE.s0 hE.s1 hN hE.N2 hE.l1 hE.l2 hm;obtain⟨xr,hxr⟩:∃xr,xr=x.reverse:=⟨_,rfl⟩;have hxl:xr.length=x.length:=by rw[hxr,rX]
 rw[<-hxr]at CE CT hb2 hN2⊢;obtain⟨m,hmm⟩:∃m,m=x.length:=⟨_,rfl⟩;rw[hxl,<-hmm]at CE;rw[<-hmm]at hm CT hx hxn hx4 hxl;have HXL:=aa hxl;have HCE:=aa CE;have HLK:=aa HLk;clear hb hN hxr hmm CE HLk;obtain⟨ix,hix⟩:∃ix,ix=(cF xr).2:=⟨_,rfl⟩;obtain⟨col,hcol⟩:∃col,col=(cF xr).1:=⟨_,rfl⟩;have hip:=pu xr;have hi1:1<=ix:=by rw[hix];exact ZC λe=>by rw[e]at hxl;simp at hxl;omega
 have hi2:ix<=m:=by rw[hix,<-hxl];exact hip.2
 have hcl:col.length=m:=by rw[hcol,hip.1,hxl]
 have hcolE:∀a l',EO N a xr l'->seg l' a (a+m)=col/\Bytes col:=λa l' h=>by
  have e:seg l' a (a+xr.length)=col:=by rw[hcol,h.col]
  rw[hxl]at e;exact⟨e,λy hy=>h.byt y (by rw[<-e]at hy;exact jB (iw hy))⟩
 obtain⟨sy,hsy⟩:∃sy,sy=eD col:=⟨_,rfl⟩;obtain⟨tl,htl⟩:∃tl,tl=tally sy:=⟨_,rfl⟩;obtain⟨L,hL⟩:∃L,L=gj tl:=⟨_,rfl⟩;obtain⟨B0,hB0⟩:∃B0:ac,B0=[]:=⟨_,rfl⟩;obtain⟨B1,hB1⟩:∃B1,B1=iA L B0:=⟨_,rfl⟩;obtain⟨B2,hB2⟩:∃B2,B2=kg L sy B1:=⟨_,rfl⟩;obtain⟨hd,hhd⟩:∃hd,hd=mH m ix cb:=⟨_,rfl⟩;have HOUT:Hid (nj xr cb=hd++pack B2):=aa (by rw[nj,mI,hxl,<-hix,<-hcol,<-hsy,<-htl,<-hL,<-hB0,<-hB1,<-hB2,<-hhd]);have hLo:=xM tl;rw[<-hL]at hLo;have hsl:=wx (b:=col) FP;rw[<-hsy]at hsl;have hB1o:=tR hLo.1 hLo.2;rw[<-hB0,<-hB1]at hB1o;have hB2l:=IH (l:=sy) (bs:=B1) hLo.1;rw[<-hB2]at hB2l;have hpk:(pack B2).length<=1000000:=by have:=m8 B2;omega
 have hhl:hd.length<=100:=by
  have h1:=(ka m FP).1;have h2:=(ka ix FP).1;have h3:(cj cb).length=4:=rfl;rw[hhd,mH];simp only[vk,wR,aV,bD,bW];omega
 obtain⟨s,hs⟩:∃s,s=sy.length:=⟨_,rfl⟩;have CB:Hid (∀W R ss,Own w0 W R ss->ak 153 #[.int .i64 n,.agg #[.int .i64 m,.int .i64 ix,.int .u32 cb]] W (kh w0 hd (.int .i64 0) R ss)):=λW R ss h=>by rw[hhd];exact ZS hE.n2 hx hxn hi1 hi2 b0 b1 h
 have CL:Hid (∀W a l' g R ss,EO N a xr l'->(a:Int)+m<=live->Own w0 W ((g,SP a m)::bB ge ga gs gx n m mode k c cb ca bg cl sp T live peak N l' R) ss->ak 115 #[ga,.agg (SP a m)] W λe w'=>∃X v,e=.returned v/\Lies 1 X v m (vs .u8 col)/\Bytes col/\Own w0 w' (X++((g,SP a m)::bB ge ga gs gx n m mode k c cb ca bg cl sp T live peak N l' R)) ss):=λW a l' g R ss hEO hal h=>by
  have hc:=hcolE _ _ hEO;have hl:=hEO.len;have l2:=hE.l2;have N2:=hE.N2;refine(If m peak (by rw[hl];exact h.row 3 rfl) (h.row 4 rfl) hal FP FP FP).mono ?_;intro e w' hO;rw[hc.1]at hO;obtain⟨X,v,rfl,hX,h'⟩:=h.mL hO;rw[hcl]at hX;exact⟨X,v,rfl,hX,hc.2,h'⟩
 have CA:Hid (∀W X v R ss,Lies 1 X v m (vs .u8 col)->Bytes col->Own w0 W (X++R) ss->ak 154 #[v] W λe w'=>∃Y u,e=.returned u/\Lies 1 Y u s (vs .i64 sy)/\Own w0 w' (Y++R) ss):=λW X v R ss hX hB h=>by
  rw[<-hcl]at hX;refine(Aga hB (hX.oF (A:=[]) h) FP).mono ?_;intro e w' hO;rw[<-hsy]at hO;obtain⟨Y,u,rfl,hY,h'⟩:=h.RE hO;rw[<-hs]at hY;exact⟨Y,u,rfl,hY,h'.sub ((aY Y).append (bG X R)) (aY _)⟩
 have CH:Hid (Bytes col->∀W A Y u R ss,Lies 1 Y u s (vs .i64 sy)->Own w0 W (A++(Y++R)) ss->ak 155 #[u] W (RO (.tuple #[.agg (J .i64 tl),.int .i64 0]) w0 (A++(Y++R)) ss)):=λhB W A Y u R ss hY h=>by
  rw[hs]at hY;refine(SU (hY.oF h) (by rw[hsy];exact Ek hB) FP).mono ?_;rintro e w'⟨rfl,hb⟩;exact⟨by rw[htl],h.call hb⟩
 have CN:Hid (Bytes col->∀W R ss,Own w0 W R ss->ak 156 #[.agg (J .i64 tl),.int .i64 15] W (RO (.tuple #[.agg (J .u8 L),.int .i64 0]) w0 R ss)):=λhB W R ss h=>by
  have ht:=BT (b:=col) hB FP;rw[<-hsy,<-htl]at ht;rw[hL];exact QO ht.1 ht.2.1 ht.2.2 h
 have HTL:Hid (Bytes col->tl.length=258):=λhB=>by
  have ht:=BT (b:=col) hB FP;rw[<-hsy,<-htl]at ht;exact ht.1
 have C7:Hid (∀W F R ss,Own w0 W (F++R) ss->ak 157 #[] W λe w'=>∃gw,e=.returned (.pointer (some ⟨gw,0,none⟩))/\kT w0 w' F gw B0 R ss):=λW F R ss h=>by
  refine(a1P h).mono ?_;rintro e w'⟨gw,rfl,h'⟩;rw[hB0];exact⟨gw,rfl,h'.yf⟩
 have C8:Hid (∀W F gw R ss,kT w0 W F gw B0 R ss->ak 158 #[.pointer (some ⟨gw,0,none⟩),.agg (J .u8 L)] W λe w'=>(∃z,e=.returned (.int .i64 z))/\kT w0 w' F gw B1 R ss):=λW F gw R ss h=>by
  refine(Sx hLo.1 hLo.2 (by rw[hB0];exact λy hy=>(by cases hy)) (by rw[hB0];exact dD _) h.vu).mono ?_;rintro e w'⟨hz,Z,X,u,hX,h'⟩;rw[<-hB1]at hX h';exact⟨hz,gH.yf ⟨X,u,hX,h'.sub (((aY X).append (bG Z _)).cons_cons _) (aY _)⟩⟩
 have C9:Hid (∀W F gw Y u R ss,Lies 1 Y u s (vs .i64 sy)->kT w0 W F gw B1 (Y++R) ss->ak 159 #[.pointer (some ⟨gw,0,none⟩),.agg (J .u8 L),u] W λe w'=>(∃z,e=.returned (.int .i64 z))/\kT w0 w' F gw B2 (Y++R) ss):=λW F gw Y u R ss hY h=>by
  rw[hs]at hY;refine(a0E hLo.1 hLo.2 FP hsl.1 hB1o.1 FP (λW' R' h'=>hY.oF (A:=R'++F) (by rw[aI];exact h')) h.vu).mono ?_;rintro e w'⟨hz,h'⟩;rw[<-hB2]at h';exact⟨hz,h'.yf⟩
 have C0:Hid (∀W F gw Y R ss,kT w0 W F gw B2 (Y++R) ss->ak 160 #[.pointer (some ⟨gw,0,none⟩)] W λe w'=>∃X v,e=.returned v/\Lies 1 X v (pack B2).length (vs .u8 (pack B2))/\Own w0 w' (X++(F++R)) ss):=λW F gw Y R ss h=>by
  obtain⟨X,u,hX,h⟩:=h.vu;refine(WZ (pack B2) h hX hpk).mono ?_;rintro e w'⟨X2,v2,rfl,hX2,h'⟩;exact⟨X2,v2,rfl,hX2,h'.sub ((aY X2).append ((((aY F).append (bG Y R)).trans (bG X _)).cons _)) (aY _)⟩
 rw[HOUT.o];rw[<-hix]at HCE;have hLl:=hLo.1;obtain⟨pk,hpke⟩:∃pk,pk=pack B2:=⟨_,rfl⟩;rw[<-hpke]at C0 hpk⊢;clear hip hi1 hi2 hcl hcolE hB0 hB1 hB2 hhd hLo hsl hB1o hB2l hcol hsy htl hL hix hs hpke HOUT;obtain⟨iM,hM⟩:=nP;have HM:=aa hM;clear hM;go_enter func112,ntmps112
 go_wp2_with(first
 |with_reducible refine pV ?_;(refine Ad rfl (BD hm rfl ?_);clear hm;intro w r hm hd')
 |with_reducible refine pN ?_;(refine Ad rfl (Bj hm hd' rfl (Ac rfl) BP (Ac rfl) underlying223 il (sL FU) (Kc rfl) (EU rfl) ?_);clear hm;intro w hm)
 |with_reducible refine gk ?_;(refine A8 rfl (Ez (v:=.func (.func fE) #[.pointer (some ⟨ge,0,none⟩)] #[]) 0 hm rfl (Ac rfl) (Ac rfl) rfl underlying223 il (sL hwf) (Kc rfl) HLK.o.1 HLK.o.2) ?_)
 |((with_reducible refine g4 ?_);refine uA hm (hz:=nf) ?_;clear hm;intro w g4x hm)
 |((with_reducible refine g4 ?_);refine uA hm (hz:=t6) ?_;clear hm;intro w gt hm)
 |((with_reducible refine g4 ?_);refine uA hm (hz:=U7) ?_;clear hm;intro w gl hm)
 |((with_reducible refine g2 ?_);refine uS hm (hl:=AhE Az (HTL.o hcB)) ?_;clear hm;intro w _ hm)
 |((with_reducible refine g2 ?_);refine uS hm (hl:=x' Az hLl) ?_;clear hm;intro w _ hm)
 |((with_reducible refine g1 ?_);refine uL hm (hl:=x8 (HTL.o hcB)) ?_)
 |((with_reducible refine g1 ?_);refine uL hm (hl:=gM hLl) ?_)
 |((with_reducible refine g5 ?_);refine uT [] [] hm ?_;clear hm;intro w _ hm)
 |go_at_call 152;refine(CT.o hm).mono ?_;clear hm;rintro e w⟨⟨u,rfl⟩,hm⟩
 |(go_at_call 153;refine(CB.o _ _ _ hm).mono ?_;clear hm;rintro e w⟨Xb,vb,rfl,hXb,hm⟩;obtain⟨ab,cpb,rfl⟩:=hXb.shape;have HXb:=aa hXb;clear hXb;replace hm:=hm.perm (iy [_,_,_,_,_] Xb rs);simp only[s2]at hm)
 |(go_at_call 115;refine(CL.o _ _ _ _ _ _ HEO.o hal hm).mono ?_;clear hm;rintro e w⟨Xc,vc,rfl,hXc,hcB,hm⟩;have HXc:=aa hXc;clear hXc)
 |(go_at_call 154;refine(CA.o _ _ _ _ _ HXc.o hcB hm).mono ?_;clear hm HXc;rintro e w⟨Y,u2,rfl,hY,hm⟩;obtain⟨ay,cy,rfl⟩:=hY.shape;have HY:=aa hY;clear hY;replace hm:=hm.perm (iy [_,_,_,_,_] Y (Xb++rs));simp only[s2]at hm)
 |go_at_call 155;refine MP (CH.o hcB _ [_,_,_,_,_] Y _ (Xb++rs) _ HY.o hm) ?_;clear hm;intro w hm;simp only[s2]at hm
 |go_at_call 156;refine MP (CN.o hcB _ _ _ hm) ?_;clear hm;intro w hm
 |(go_at_call 157;refine(C7.o _ [_,_,_,_,_,_,_] _ _ hm).mono ?_;clear hm;rintro e w⟨gw,rfl,Xw,uw,hXw,hm⟩;have HXw:=aa hXw;clear hXw;simp only[s2]at hm)
 |(go_at_call 158;refine(C8.o _ [_,_,_,_,_,_,_] _ _ _ ⟨Xw,uw,HXw.o,hm⟩).mono ?_;clear hm HXw;rintro e w⟨⟨z8,rfl⟩,Xw,uw,hXw,hm⟩;have HXw:=aa hXw;clear hXw;simp only[s2]at hm)
 |(go_at_call 159;refine(C9.o _ [_,_,_,_,_,_,_] _ Y _ _ _ HY.o ⟨Xw,uw,HXw.o,hm⟩).mono ?_;clear hm HXw;rintro e w⟨⟨z9,rfl⟩,Xw,uw,hXw,hm⟩;have HXw:=aa hXw;clear hXw;simp only[s2]at hm)
 |(go_at_call 160;refine(C0.o _ [_,_,_,_,_,_,_] _ Y _ _ ⟨Xw,uw,HXw.o,hm⟩).mono ?_;clear hm HXw HY;rintro e w⟨Xp,vp,rfl,hXp,hm⟩;obtain⟨ap,cpp,rfl⟩:=hXp.shape;have HXp:=aa hXp;clear hXp;rw[<-aI]at hm)
 |refine Ad rfl (GR (A:=Xp++[_,_,_,_,_,_,_]) (X:=Xb) hm rfl HM.o (Ac rfl) HXb.o (Ac rfl) (λW h=>HXp.o.from (A:=[]) I4) (iP.1 k9) FP FP FP ?_);clear hm HXb HXp;intro X3 v3 w hX3 hm
 |(refine(HCE.o _ _ _ hm).mono ?_;clear hm;rintro e w⟨a,l',rfl,hEO,hal,hm⟩;have HEO:=aa hEO;clear hEO;replace hm:=hm.sub (aY _) (lV _ ss))
 |refine U ?_;try(clear hm;intro w gp hm))
 go_ret;rw[<-P7,<-aV]at hX3;exact⟨X3,_,l',rfl,hX3,HEO.o.len,HEO.o.byt,hm.sub (((((aY [_,_,_,_]).cons _).cons _).cons _|>.trans (bG Xp _)).append (aY _)) (aY _)⟩
end
end
structure Wk where
 col:ac
 ix:Nat
 d:Nat
 r:Nat
 k:Nat
 st:Int
def Wk.cost(w:Wk):Int:=if w.d=0 then 1 else 1+((Iw w.ix w.r%w.d:Nat):Int)
def Wk.byte(w:Wk):Int:=gi w.col (Iw w.ix w.r)
def Wk.next(w:Wk):Wk:=⟨w.col,w.ix,w.d,(bc w.col (Iw w.ix w.r)).toNat,w.k+1,w.st+w.cost⟩
def bi(col:ac)(ix d:Nat):Int:=if d=0 then ik col ix col.length 0 else wst col ix d col.length 0
def ea(col:ac)(ix:Nat):Nat->Nat->ac
|0,_=>[]
|k+1,r=>if r=ix then[]else gi col (Iw ix r)::ea col ix k (bc col (Iw ix r)).toNat
def fS(a:Int)(t:ac):Int:=t.foldl (λa b=>crc a [[b]]) a
structure Dk where
 c:Cf
 hd:Option (Int×Int)
 out:ac
 m:Int
 p:Int
 q:Int
 bk:Option Wk
 st:Int
 told:Int
 all:Int
 e:Int
def Dk.d(s:Dk):Nat:=match s.hd with
|some (_,md)=>(Pol.dist md).toNat
|none=>0
def Dk.ends(s:Dk)(c2:Cf):Dk:=
 if cD s.out s.p.toNat s.out.length 0=true then
  (if fS 0 (ea s.out s.p.toNat s.out.length 0)=s.q then{s with c:=c2,bk:=some ⟨s.out,s.p.toNat,s.d,0,0,bi s.out s.p.toNat s.d+bi s.out s.p.toNat s.d⟩}
  else{s with c:=c2,e:=250,st:=s.st+(bi s.out s.p.toNat s.d+bi s.out s.p.toNat s.d)})
 else{s with c:=c2,e:=170,st:=s.st+bi s.out s.p.toNat s.d}
def Dk.act(bud:Int)(s:Dk)(c2:Cf):ba->Dk
|.head n=>if(Pol.pk bud n 2).2=0 then{s with c:=c2,hd:=some (n,(Pol.pk bud n 2).1)}else{s with c:=c2,e:=(Pol.pk bud n 2).2}
|.block m p q=>{s with c:=c2,m:=m,p:=p,q:=q,out:=[]}
|.bytes t=>{s with c:=c2,out:=s.out++t}
|.U5 _ _ _=>s.ends c2
|.tail q=>if q=s.all then{s with c:=c2}else{s with c:=c2,e:=260}
|.bad e=>{s with c:=c2,e:=e}
|_=>{s with c:=c2}
def Dk.tell(s:Dk)(w:Wk):Dk:=
 if((w.k+1:Nat):Int)=s.m then{s with bk:=none,told:=s.told+1,all:=crc s.all [[w.byte]],st:=s.st+w.next.st}
 else{s with bk:=some w.next,told:=s.told+1,all:=crc s.all [[w.byte]]}
inductive dC where
|byte (b:Int)
|need
|fin
|bad (e:Int)
def dC.val:dC->Value
|.byte b=>.tuple #[.int .u8 b,.int .u8 1,.int .i64 0]
|.need=>.tuple #[.int .u8 0,.int .u8 2,.int .i64 0]
|.fin=>.tuple #[.int .u8 0,.int .u8 3,.int .i64 0]
|.bad e=>.tuple #[.int .u8 0,.int .u8 4,.int .i64 e]
def ba.act:ba->Bool
|.fin=>false
|.need=>false
|_=>true
inductive DN(bud:Int)(en:Bool):Dk->dC->Dk->Prop where
|err {s:Dk} (h:s.e≠0):DN bud en s (.bad s.e) s
|byte {s:Dk} {w:Wk} (h:s.e=0) (hb:s.bk=some w):DN bud en s (.byte w.byte) (s.tell w)
|need {s:Dk} {c2:Cf} (h:s.e=0) (hb:s.bk=none) (hN:cJ en s.c .need c2):DN bud en s .need {s with c:=c2}
|fin {s:Dk} {c2:Cf} (h:s.e=0) (hb:s.bk=none) (hN:cJ en s.c .fin c2):DN bud en s .fin {s with c:=c2}
|act {s s2:Dk} {c2:Cf} {ev:ba} {r:dC} (h:s.e=0) (hb:s.bk=none) (hN:cJ en s.c ev c2) (ha:ev.act=true) (hz:∀e,ev=.bad e->e≠0) (hd:DN bud en (s.act bud c2 ev) r s2):DN bud en s r s2
def Own.fb{w0 w:FC}{f p q r:O9}{rs:ae}{ss:O1}(h:Own w0 w (f::p::q::r::rs) ss):Own w0 w (p::q::r::f::rs) ss:=h.perm ((gK (l₁:=[p,q,r]) (l₂:=[f])).append_right rs)
def Own.bf{w0 w:FC}{f p q r:O9}{rs:ae}{ss:O1}(h:Own w0 w (p::q::r::f::rs) ss):Own w0 w (f::p::q::r::rs) ss:=h.perm ((gK (l₁:=[f]) (l₂:=[p,q,r])).append_right rs)
structure cW(w:Wk)(ga n mk:Nat)(live:Int)(l:ac)(cs:ai)(t fv fn fr fs ft:Nat):Prop where
 kd:kx t fv fn fr fs ft
 col:Jp l 0 w.col.length=w.col
 r:w.r<=w.col.length
 k:w.k<=w.col.length
 n2:w.col.length<=65536
 i1:1<=w.ix
 i2:w.ix<=w.col.length
 byt:Bytes w.col
 row:(t=54/\w.d=0/\cs=ci ga 0 w.col.length n mk w.ix w.r w.k w.st/\fD l live 0 w.col.length n mk w.ix/\∀r,r<=w.col.length->w32 l (n+4*r) 4=rowsOf (Jp l 0 w.col.length) w.ix r)\/
  (t=57/\0<w.d/\w.d<=65536/\cs=cP ga l 0 w.col.length n mk w.d w.ix w.r w.k w.st/\j7 l live 0 w.col.length n mk w.d w.ix)
def eo(col:ac)(ix d k r:Nat):Int:=if d=0 then ik col ix k r else wst col ix d k r
def sg{col:ac}{ix d r:Nat}:eo col ix d 0 r=0:=by unfold eo;split<;>rfl
def oy{col:ac}{ix d k r:Nat}(h:r≠ix):eo col ix d (k+1) r=(if d=0 then 1 else 1+((Iw ix r%d:Nat):Int))+eo col ix d k (bc col (Iw ix r)).toNat:=by
 unfold eo;split
 .rw[ik,aP h]
 .rw[wst,aP h]
def fm{col:ac}{ix d:Nat}(hd:d<=65536):∀k r,0<=eo col ix d k r/\eo col ix d k r<=65537*k
|0,r=>by rw[sg];omega
|k+1,r=>by
  by_cases h:r=ix
  .have e:eo col ix d (k+1) r=0:=by
    unfold eo;split
    .rw[ik,aQ h]
    .rw[wst,aQ h]
   rw[e];omega
  .rw[oy h];have:=fm (col:=col) (ix:=ix) hd k (bc col (Iw ix r)).toNat
   by_cases h0:d=0
   .rw[aQ h0];omega
   .rw[aP h0];have:=sD (Iw ix r) (Nat.pos_of_ne_zero h0);omega
def gC{col:ac}{ix d:Nat}:bi col ix d=eo col ix d col.length 0:=rfl
section
variable{w:Wk}{gw ga gx n mk:Nat}{live peak:Int}{l:ac}{cs:ai}{t fv fn fr fs ft:Nat}{w0:FC}{rs:ae}{ss:O1}
def cW.next(h:cW w ga n mk live l cs t fv fn fr fs ft)(hr:w.r≠w.ix)(hk:w.k<w.col.length)(s0:0<=w.st)(s1:w.st<=100000000000000):∃cs2,cW w.next ga n mk live l cs2 t fv fn fr fs ft/\∀W f,Own w0 W (f::(gw,cs)::(ga,AR (.slice gx l.length l.length) live peak)::(gx,B l)::rs) ss->ak fn #[gw] W (RO (.tuple #[.int .u8 w.byte,.bool true]) w0 (f::(gw,cs2)::(ga,AR (.slice gx l.length l.length) live peak)::(gx,B l)::rs) ss):=by
 have hpl:=lA h.i1 h.i2 h.r hr;obtain⟨e1,e2⟩:=sR h.byt (Iw w.ix w.r) hpl;obtain⟨kd,hc,r2,k2,n2,i1,i2,hb,hrow⟩:=h;rcases hrow with⟨ht,hd,rfl,ho,hw⟩|⟨ht,hd,hd2,rfl,ho⟩
 .refine⟨ci ga 0 w.col.length n mk w.ix w.next.r w.next.k w.next.st,⟨kd,hc,e2,hk,n2,i1,i2,hb,.inl ⟨ht,hd,rfl,ho,hw⟩⟩,λW f hm=>?_⟩;have hfn:fn=30:=by rcases kd with⟨_,_,h,_⟩|⟨h,_⟩<;>omega
  subst hfn;refine(A5F 0 w.col.length w.ix w.r w.k w.st hm.fb ho hw s0 s1 r2 hk hr).mono ?_;rintro x w'⟨rfl,hm⟩;refine⟨by rw[hc];rfl,?_⟩;have hm:=hm.bf;rw[hc,<-e1]at hm;have es:w.next.st=w.st+1:=by simp[Wk.next,Wk.cost,hd]
  exact G4
 .refine⟨cP ga l 0 w.col.length n mk w.d w.ix w.next.r w.next.k w.next.st,⟨kd,hc,e2,hk,n2,i1,i2,hb,.inr ⟨ht,hd,hd2,rfl,ho⟩⟩,λW f hm=>?_⟩;have hfn:fn=31:=by rcases kd with⟨h,_⟩|⟨_,_,h,_⟩<;>omega
  subst hfn;refine(A5I 0 w.col.length w.d w.ix w.r w.k w.st hm.fb ho s0 s1 r2 hk hr).mono ?_;rintro x w'⟨rfl,hm⟩;refine⟨by rw[hc];rfl,?_⟩;have hm:=hm.bf;rw[show bc (Jp l 0 w.col.length) (Iw w.ix w.r)=((w.next.r:Nat):Int) by rw[hc];exact e1.symm]at hm;have es:w.next.st=w.st+(1+((Iw w.ix w.r%w.d:Nat):Int)):=by simp[Wk.next,Wk.cost,Nat.ne_of_gt hd]
  exact G4
def cW.done(h:cW w ga n mk live l cs t fv fn fr fs ft)(hk:w.k=w.col.length)(s0:0<=w.st)(s1:w.st<=100000000000000):∀W f,Own w0 W (f::(gw,cs)::(ga,AR (.slice gx l.length l.length) live peak)::(gx,B l)::rs) ss->ak fn #[gw] W (RO (.tuple #[.int .u8 0,.bool false]) w0 (f::(gw,cs)::(ga,AR (.slice gx l.length l.length) live peak)::(gx,B l)::rs) ss):=λW f hm=>by
 obtain⟨kd,hc,r2,k2,n2,i1,i2,hb,hrow⟩:=h;rcases hrow with⟨ht,hd,rfl,ho,hw⟩|⟨ht,hd,hd2,rfl,ho⟩
 .have hfn:fn=30:=by rcases kd with⟨_,_,h,_⟩|⟨h,_⟩<;>omega
  subst hfn;refine(VC 0 w.col.length w.ix w.r w.k w.st hm.fb ho hw s0 s1 FP).mono ?_;rintro x w'⟨rfl,hm⟩;exact⟨rfl,hm.bf⟩
 .have hfn:fn=31:=by rcases kd with⟨h,_⟩|⟨_,_,h,_⟩<;>omega
  subst hfn;refine(A55 0 w.col.length w.d w.ix w.r w.k w.st hm.fb ho s0 s1 FP).mono ?_;rintro x w'⟨rfl,hm⟩;exact⟨rfl,hm.bf⟩
def cW.valid(h:cW w ga n mk live l cs t fv fn fr fs ft)(h0:w.st=0):∃cs2,cW {w with st:=bi w.col w.ix w.d} ga n mk live l cs2 t fv fn fr fs ft/\∀W f,Own w0 W (f::(gw,cs)::(ga,AR (.slice gx l.length l.length) live peak)::(gx,B l)::rs) ss->ak fv #[gw] W (RO (.bool (cD w.col w.ix w.col.length 0)) w0 (f::(gw,cs2)::(ga,AR (.slice gx l.length l.length) live peak)::(gx,B l)::rs) ss):=by
 obtain⟨kd,hc,r2,k2,n2,i1,i2,hb,hrow⟩:=h;rcases hrow with⟨ht,hd,rfl,ho,hw⟩|⟨ht,hd,hd2,rfl,ho⟩
 .refine⟨ci ga 0 w.col.length n mk w.ix w.r w.k (bi w.col w.ix w.d),⟨kd,hc,r2,k2,n2,i1,i2,hb,.inl ⟨ht,hd,rfl,ho,hw⟩⟩,λW f hm=>?_⟩;have hfn:fv=28:=by rcases kd with⟨_,h,_⟩|⟨h,_⟩<;>omega
  subst hfn;refine(A4x 0 w.col.length w.ix w.r w.k w.st hm.fb ho hw FP FP).mono ?_;rintro x w'⟨rfl,hm⟩;rw[hc]at hm⊢;refine⟨rfl,?_⟩;have es:w.st+ik w.col w.ix w.col.length 0=bi w.col w.ix w.d:=by rw[h0,bi,aQ hd];omega
  rw[es]at hm;exact hm.bf
 .refine⟨cP ga l 0 w.col.length n mk w.d w.ix w.r w.k (bi w.col w.ix w.d),⟨kd,hc,r2,k2,n2,i1,i2,hb,.inr ⟨ht,hd,hd2,rfl,ho⟩⟩,λW f hm=>?_⟩;have hfn:fv=29:=by rcases kd with⟨h,_⟩|⟨_,h,_⟩<;>omega
  subst hfn;refine(ZZ 0 w.col.length w.d w.ix w.r w.k w.st hm.fb ho FP FP).mono ?_;rintro x w'⟨rfl,hm⟩;have es:w.st+wst (Jp l 0 w.col.length) w.ix w.d w.col.length 0=bi w.col w.ix w.d:=by rw[hc,h0,bi,aP FP];omega
  rw[es]at hm;exact⟨by rw[hc],hm.bf⟩
def cW.told(h:cW w ga n mk live l cs t fv fn fr fs ft):∀W f R,Own w0 W (f::(gw,cs)::R) ss->ak ft #[gw] W (RW W (.int .i64 w.k)):=λW f R hm=>by
 obtain⟨kd,hc,r2,k2,n2,i1,i2,hb,hrow⟩:=h;rcases hrow with⟨ht,hd,rfl,ho,hw⟩|⟨ht,hd,hd2,rfl,ho⟩
 .have hfn:ft=313:=by rcases kd with⟨_,_,_,_,_,h⟩|⟨h,_⟩<;>omega
  subst hfn;exact Z6 hm.dropRow
 .have hfn:ft=316:=by rcases kd with⟨h,_⟩|⟨_,_,_,_,_,h⟩<;>omega
  subst hfn;exact A54 hm.dropRow
def cW.steps(h:cW w ga n mk live l cs t fv fn fr fs ft):∀W f R,Own w0 W (f::(gw,cs)::R) ss->ak fs #[gw] W (RW W (.int .i64 w.st)):=λW f R hm=>by
 obtain⟨kd,hc,r2,k2,n2,i1,i2,hb,hrow⟩:=h;rcases hrow with⟨ht,hd,rfl,ho,hw⟩|⟨ht,hd,hd2,rfl,ho⟩
 .have hfn:fs=312:=by rcases kd with⟨_,_,_,_,h,_⟩|⟨h,_⟩<;>omega
  subst hfn;exact A4y hm.dropRow
 .have hfn:fs=315:=by rcases kd with⟨h,_⟩|⟨_,_,_,_,h,_⟩<;>omega
  subst hfn;exact Wo hm.dropRow
def cW.reset(h:cW w ga n mk live l cs t fv fn fr fs ft):∃cs2,cW {w with r:=0,k:=0} ga n mk live l cs2 t fv fn fr fs ft/\∀W f R,Own w0 W (f::(gw,cs)::R) ss->ak fr #[gw] W (RO (.tuple #[]) w0 (f::(gw,cs2)::R) ss):=by
 obtain⟨kd,hc,r2,k2,n2,i1,i2,hb,hrow⟩:=h;have sw:∀{W:FC}{a b:O9}{R:ae},Own w0 W (a::b::R) ss->Own w0 W (b::a::R) ss:=λh=>h.perm (fM _ _ _);rcases hrow with⟨ht,hd,rfl,ho,hw⟩|⟨ht,hd,hd2,rfl,ho⟩
 .refine⟨ci ga 0 w.col.length n mk w.ix 0 0 w.st,⟨kd,hc,dD _,dD _,n2,i1,i2,hb,.inl ⟨ht,hd,rfl,ho,hw⟩⟩,λW f R hm=>?_⟩;have hfn:fr=311:=by rcases kd with⟨_,_,_,h,_⟩|⟨h,_⟩<;>omega
  subst hfn;refine(Ts (sw hm)).mono ?_;rintro x w'⟨rfl,hm⟩;exact⟨rfl,sw hm⟩
 .refine⟨cP ga l 0 w.col.length n mk w.d w.ix 0 0 w.st,⟨kd,hc,dD _,dD _,n2,i1,i2,hb,.inr ⟨ht,hd,hd2,rfl,ho⟩⟩,λW f R hm=>?_⟩;have hfn:fr=314:=by rcases kd with⟨h,_⟩|⟨_,_,_,h,_⟩<;>omega
  subst hfn;refine(A4C (sw hm)).mono ?_;rintro x w'⟨rfl,hm⟩;exact⟨rfl,sw hm⟩
end
section
variable{col:ac}{ix d r k:Nat}{s:Int}{gw ga gx n mk:Nat}{live peak:Int}{l:ac}{cs:ai}{t fv fn fr fs ft:Nat}{w0:FC}{rs:ae}{ss:O1}
def EA(h:cW ⟨col,ix,d,r,k,s⟩ ga n mk live l cs t fv fn fr fs ft)(hr:r≠ix)(hk:k<col.length)(s0:0<=s)(s1:s<=100000000000000):∃cs2,cW ⟨col,ix,d,(bc col (Iw ix r)).toNat,k+1,s+(if d=0 then 1 else 1+((Iw ix r%d:Nat):Int))⟩ ga n mk live l cs2 t fv fn fr fs ft/\∀W f,Own w0 W (f::(gw,cs)::(ga,AR (.slice gx l.length l.length) live peak)::(gx,B l)::rs) ss->ak fn #[gw] W (RO (.tuple #[.int .u8 (gi col (Iw ix r)),.bool true]) w0 (f::(gw,cs2)::(ga,AR (.slice gx l.length l.length) live peak)::(gx,B l)::rs) ss):=h.next hr hk s0 s1
def tx(h:cW ⟨col,ix,d,0,0,0⟩ ga n mk live l cs t fv fn fr fs ft){b:Bool}(hb:cD col ix col.length 0=b):∃cs2,cW ⟨col,ix,d,0,0,bi col ix d⟩ ga n mk live l cs2 t fv fn fr fs ft/\∀W f,Own w0 W (f::(gw,cs)::(ga,AR (.slice gx l.length l.length) live peak)::(gx,B l)::rs) ss->ak fv #[gw] W (RO (.bool b) w0 (f::(gw,cs2)::(ga,AR (.slice gx l.length l.length) live peak)::(gx,B l)::rs) ss):=by
 subst hb;exact h.valid rfl
def Rm(h:cW ⟨col,ix,d,r,k,s⟩ ga n mk live l cs t fv fn fr fs ft):∃cs2,cW ⟨col,ix,d,0,0,s⟩ ga n mk live l cs2 t fv fn fr fs ft/\∀W f R,Own w0 W (f::(gw,cs)::R) ss->ak fr #[gw] W (RO (.tuple #[]) w0 (f::(gw,cs2)::R) ss):=h.reset
end
section
variable{a:OA}{sc:ai}{b bud came e live md peak q:Int}{l:ac}{ss:O1}{N fn fr fs ft fv ga gd gs gx mk n px sp spc t:Nat}{c:O9}{o:Oz}{x y:O7}{rs:ae}{bv pp pr:NY}{w w0:FC}
def K7(ho:o.op=.build 50 #[(0,x),(1,y)]){n:Int}(hx:a.eval x=.int .i64 b)(hy:a.eval y=.int .i64 n):(execOp a.eval o).run prog w=.ok (.value (.agg (SP b n))) w:=
 Dq ho GV
def Own.Kn{a b d e:O9}(h:Own w0 w (a::b::c::d::e::rs) ss):Own w0 w (e::a::b::c::rs) ss:=
 (h.perm ((gK (l₁:=[d,e]) (l₂:=[a,b,c])).append_right rs)).dropRow
def TN(md:Int){st told all:Int}(hm:Own w0 w ((gd,DRw bud md (.pointer ga) pr pp (.slice (some ⟨gs,sp,none⟩) 2 spc) N px q came bv st told all e)::(ga,AR (.slice gx l.length l.length) live peak)::(gx,B l)::(gs,sc)::rs) ss)(h0:sc[sp]?=some (.int .i64 0))(h2:sc[sp+2]?=some (.int .i64 n))(h3:sc[sp+3]?=some (.int .i64 mk))(CD:Hid (∀W,ak 96 #[.int .u8 md] W (RB W (.tuple #[.int .i64 0,.bool false]))))(h:fD l live 0 N n mk px):ak 114 #[gd] w λx w'=>∃gf l2,x=.returned (.tuple #[.iface 54 (.pointer (some ⟨gf,0,none⟩)),.int .i64 0])/\l2.length=l.length/\Jp l2 0 N=Jp l 0 N/\fD l2 live 0 N n mk px/\(∀r,r<=N->w32 l2 (n+4*r) 4=rowsOf (Jp l2 0 N) px r)/\Own w0 w' ((gd,DRw bud md (.pointer ga) pr pp (.slice (some ⟨gs,sp,none⟩) 2 spc) N px q came bv st told all e)::(gf,ci ga 0 N n mk px 0 0 0)::(ga,AR (.slice gx l2.length l2.length) live peak)::(gx,B l2)::(gs,sc)::rs) ss:=by
 have HS0:Hid (sc[sp+0*2]?=some (.int .i64 0)):=aa (by simpa using h0);have HS2:Hid (sc[sp+1*2]?=some (.int .i64 n)):=aa (by simpa using h2);have HS3:Hid (sc[sp+1*2+1]?=some (.int .i64 mk)):=aa Ii;clear h0 h2 h3;obtain⟨i1,hE⟩:=mz;have HE:=aa hE;clear hE;have HF:=aa h;clear h;go_enter func114,ntmps114
 go_upto_region 1 with fail
 refine rO hm 14 (.am [(0,false),(1,false),(2,false),(3,true),(4,false),(5,false),(6,true),(7,false),(8,false),(9,false),(10,false),(11,true),(12,false)] (.one 13 (.brk 14 15 .done))) ?_;clear hm;intro w hm;simp only[KT.am]
 iterate 3 refine kq ?_
 refine km (λW hm=>ld 0 hm rfl rfl rfl (ot rfl) rfl) ?_
 refine bj rfl rfl (λW=>ix (k:=0) rfl HE.o rfl rfl rfl FP) ?_
 try simp only[Act.put,s3]
 refine kq ?_;refine km (λW hm=>ld 3 hm rfl rfl rfl (ot rfl) HS0.o) ?_
 iterate 4 refine kq ?_
 refine km (λW hm=>ld 0 hm rfl rfl rfl (ot rfl) rfl) ?_
 refine bj rfl rfl (λW=>K7 rfl rfl rfl) ?_
 try simp only[Act.put,s3]
 refine Bo rfl rfl (Dl hm rfl nf ?_)
 clear hm;intro w g hm;refine⟨λW=>Own _ W _ _,λ_ h=>h.dropRow,hm,?_⟩
 try simp only[Act.put,s3]
 ((refine Em rfl rfl (Aw 0 hm rfl rfl (Ac rfl) rfl (ag rfl) rfl (Dp rfl) ?_)))
 clear hm;intro w hm
 try simp only[puts,s2,List.set,List.eraseIdx,s3]at hm
 refine⟨λW=>Own _ W _ _,hm,?_⟩
 try simp only[Act.put,s3]
 refine Ba ?_;go_simp
 go_upto_region 4 with(first
  |go_at_call 96;refine cB (CD.o _) hm ?_;clear hm;intro w1 hm
  |with_reducible refine wl 5 1 hm ?_)
 refine rO hm 16 (.am [(0,false),(1,false),(2,false),(3,true),(4,true),(5,false),(6,false),(7,false),(8,false),(9,true),(10,false),(11,false),(12,false),(13,true),(14,false),(15,true)] (.brk 16 22 (.am [(17,false),(18,false),(19,false),(20,false),(21,false)] .done))) ?_;clear hm;intro w hm;simp only[KT.am]
 iterate 3 refine kq ?_
 refine km (λW hm=>ld 1 hm rfl rfl rfl (ot rfl) rfl) ?_;refine km (λW hm=>jb 0 hm rfl rfl rfl (ag rfl) rfl rfl) ?_
 iterate 4 refine kq ?_
 refine km (λW hm=>ld 1 hm rfl rfl rfl (ot rfl) rfl) ?_
 iterate 3 refine kq ?_
 refine km (λW hm=>ld 1 hm rfl rfl rfl (ot rfl) rfl) ?_
 refine bj rfl rfl (λW=>ix (k:=1) rfl HE.o rfl rfl rfl FP) ?_
 try simp only[Act.put,s3]
 refine km (λW hm=>jb 4 hm rfl rfl rfl (ag rfl) HS2.o HS3.o) ?_;refine PO rfl rfl (λK hK=>?_);go_simp;refine(A5G 0 hm.nt HF.o).mono ?_;rintro e w1⟨gf,l2,rfl,hl2,hc2,hg2,hF2,hW2,hm⟩;refine hK _ _ ⟨λW=>Own _ W _ _,hm,?_⟩;clear hK K
 iterate 5 refine kq ?_
 refine Ba ?_;go_simp;go_wp2
 go_ret2
 exact⟨gf,l2,rfl,hl2,hc2,hF2,hW2,hm.Kn⟩
def T0{st told all:Int}(hm:Own w0 w ((gd,DRw bud md (.pointer ga) pr pp (.slice (some ⟨gs,sp,none⟩) 2 spc) N px q came bv st told all e)::(ga,AR (.slice gx l.length l.length) live peak)::(gx,B l)::(gs,sc)::rs) ss)(h0:sc[sp]?=some (.int .i64 0))(h2:sc[sp+2]?=some (.int .i64 n))(h3:sc[sp+3]?=some (.int .i64 mk)){d:Nat}(CD:Hid (∀W,ak 96 #[.int .u8 md] W (RB W (.tuple #[.int .i64 d,.bool true]))))(hb:Bytes l)(h:nC live 0 N n mk d)(hl1:live<=l.length)(hl2:l.length<=1048576)(i1x:1<=px)(i2x:px<=N):ak 114 #[gd] w λx w'=>∃gf l2,x=.returned (.tuple #[.iface 57 (.pointer (some ⟨gf,0,none⟩)),.int .i64 0])/\l2.length=l.length/\Jp l2 0 N=Jp l 0 N/\j7 l2 live 0 N n mk d px/\Own w0 w' ((gd,DRw bud md (.pointer ga) pr pp (.slice (some ⟨gs,sp,none⟩) 2 spc) N px q came bv st told all e)::(gf,cP ga l2 0 N n mk d px 0 0 0)::(ga,AR (.slice gx l2.length l2.length) live peak)::(gx,B l2)::(gs,sc)::rs) ss:=by
 have HS0:Hid (sc[sp+0*2]?=some (.int .i64 0)):=aa (by simpa using h0);have HS2:Hid (sc[sp+1*2]?=some (.int .i64 n)):=aa (by simpa using h2);have HS3:Hid (sc[sp+1*2+1]?=some (.int .i64 mk)):=aa Ii;clear h0 h2 h3;obtain⟨i1,hE⟩:=mz;have HE:=aa hE;clear hE;have HK:=aa h;have HB:=aa hb;clear h hb;go_enter func114,ntmps114
 go_upto_region 1 with fail
 refine rO hm 14 (.am [(0,false),(1,false),(2,false),(3,true),(4,false),(5,false),(6,true),(7,false),(8,false),(9,false),(10,false),(11,true),(12,false)] (.one 13 (.brk 14 15 .done))) ?_;clear hm;intro w hm;simp only[KT.am]
 iterate 3 refine kq ?_
 refine km (λW hm=>ld 0 hm rfl rfl rfl (ot rfl) rfl) ?_
 refine bj rfl rfl (λW=>ix (k:=0) rfl HE.o rfl rfl rfl FP) ?_
 try simp only[Act.put,s3]
 refine kq ?_;refine km (λW hm=>ld 3 hm rfl rfl rfl (ot rfl) HS0.o) ?_
 iterate 4 refine kq ?_
 refine km (λW hm=>ld 0 hm rfl rfl rfl (ot rfl) rfl) ?_
 refine bj rfl rfl (λW=>K7 rfl rfl rfl) ?_
 try simp only[Act.put,s3]
 refine Bo rfl rfl (Dl hm rfl nf ?_)
 clear hm;intro w g hm;refine⟨λW=>Own _ W _ _,λ_ h=>h.dropRow,hm,?_⟩
 try simp only[Act.put,s3]
 ((refine Em rfl rfl (Aw 0 hm rfl rfl (Ac rfl) rfl (ag rfl) rfl (Dp rfl) ?_)))
 clear hm;intro w hm
 try simp only[puts,s2,List.set,List.eraseIdx,s3]at hm
 refine⟨λW=>Own _ W _ _,hm,?_⟩
 try simp only[Act.put,s3]
 refine Ba ?_;go_simp
 go_upto_region 5 with(first
  |go_at_call 96;refine cB (CD.o _) hm ?_;clear hm;intro w1 hm
  |with_reducible refine wl 5 1 hm ?_)
 refine rO hm 17 (.am [(0,false),(1,false),(2,false),(3,true),(4,true),(5,false),(6,false),(7,false),(8,false),(9,true),(10,false),(11,false),(12,false),(13,true),(14,false),(15,true),(16,false)] (.brk 17 23 (.am [(18,false),(19,false),(20,false),(21,false),(22,false)] .done))) ?_;clear hm;intro w hm;simp only[KT.am]
 iterate 3 refine kq ?_
 refine km (λW hm=>ld 1 hm rfl rfl rfl (ot rfl) rfl) ?_;refine km (λW hm=>jb 0 hm rfl rfl rfl (ag rfl) rfl rfl) ?_
 iterate 4 refine kq ?_
 refine km (λW hm=>ld 1 hm rfl rfl rfl (ot rfl) rfl) ?_
 iterate 3 refine kq ?_
 refine km (λW hm=>ld 1 hm rfl rfl rfl (ot rfl) rfl) ?_
 refine bj rfl rfl (λW=>ix (k:=1) rfl HE.o rfl rfl rfl FP) ?_
 try simp only[Act.put,s3]
 refine km (λW hm=>jb 4 hm rfl rfl rfl (ag rfl) HS2.o HS3.o) ?_;refine kq ?_;refine PO rfl rfl (λK hK=>?_);go_simp;refine(A5J 0 hm.nt HB.o HK.o hl1 hl2 i1x i2x).mono ?_;rintro e w1⟨gf,l2,rfl,hl3,hc2,hg2,hF2,hm⟩;refine hK _ _ ⟨λW=>Own _ W _ _,hm,?_⟩;clear hK K
 iterate 5 refine kq ?_
 refine Ba ?_;go_simp;go_wp2
 go_ret2
 exact⟨gf,l2,rfl,hl3,hc2,hF2,hm.Kn⟩
def PL(live:Int)(q came:Int)(bv:NY)(st told all e:Int)(hm:Own w0 w ((gd,DRw bud md (.pointer ga) pr pp (.slice (some ⟨gs,sp,none⟩) 2 spc) N px q came bv st told all e)::(ga,AR (.slice gx l.length l.length) live peak)::(gx,B l)::(gs,sc)::rs) ss)(h0:sc[sp]?=some (.int .i64 0))(h2:sc[sp+2]?=some (.int .i64 n))(h3:sc[sp+3]?=some (.int .i64 mk)){d:Nat}(HMD:(d=0/\md=3/\4*(N+1)<=mk)\/(0<d/\(md=1\/md=2)/\(d:Int)=Pol.dist md/\1024*(N/d)<=mk))(n1:1<=N)(hN:N<=n)(hn:n<=65536)(hb:Bytes l)(hl1:live<=l.length)(hl2:l.length<=1048576)(hf:(n:Int)+mk<=live)(i1x:1<=px)(i2x:px<=N)(hk:kx t fv fn fr fs ft)(ht:t=54↔d=0):ak 114 #[gd] w λx w'=>∃gf l2 cs,x=.returned (.tuple #[.iface t (.pointer (some ⟨gf,0,none⟩)),.int .i64 0])/\l2.length=l.length/\Bytes l2/\cW ⟨Jp l 0 N,px,d,0,0,0⟩ ga n mk live l2 cs t fv fn fr fs ft/\Own w0 w' ((gd,DRw bud md (.pointer ga) pr pp (.slice (some ⟨gs,sp,none⟩) 2 spc) N px q came bv st told all e)::(gf,cs)::(ga,AR (.slice gx l2.length l2.length) live peak)::(gx,B l2)::(gs,sc)::rs) ss:=by
 have hlen:(Jp l 0 N).length=N:=fX FP;have hcb:Bytes (Jp l 0 N):=kA hb;rcases HMD with⟨rfl,rfl,h4⟩|⟨d0,hmd,hd,hk4⟩
 .obtain rfl:t=54:=ht.2 rfl;refine(TN 3 hm h0 h2 h3 (aa λW=>Pol.M4 3 W) ⟨n1,FP,FP,hf,h4,hl1,hl2,i1x,i2x,hb⟩).mono ?_;rintro x w'⟨gf,l2,rfl,hl3,hc,hF,hW,hm⟩;exact⟨gf,l2,_,rfl,hl3,hF.byt,⟨hk,by simp only[hlen];exact hc,dD _,dD _,by simp only[hlen];omega,i1x,by simp only[hlen];exact i2x,hcb,.inl ⟨rfl,rfl,by simp only[hlen];rfl,by simp only[hlen];exact hF,by simp only[hlen];exact hW⟩⟩,hm⟩
 .have ht7:t=57:=by
   rcases hk with⟨h,_⟩|⟨h,_⟩
   .have:=ht.1 h;omega
   .exact h
  subst ht7
  have hd2:d<=65536:=by
   rcases hmd with rfl|rfl
   .have:Pol.dist 1=8192:=FU
    omega
   .have:Pol.dist 2=1024:=FU
    omega
  have hdk:Pol.z' md=true:=by rcases hmd with rfl|rfl<;>rfl
  refine(T0 hm h0 h2 h3 (aa λW=>by have:=Pol.M4 md W;rwa[<-hd,hdk]at this) hb ⟨n1,FP,d0,hd2,FP,hf,hk4,FP⟩ hl1 hl2 i1x i2x).mono ?_;rintro x w'⟨gf,l2,rfl,hl3,hc,hF,hm⟩;exact⟨gf,l2,_,rfl,hl3,hF.sm.byt,⟨hk,by simp only[hlen];exact hc,dD _,dD _,by simp only[hlen];omega,i1x,by simp only[hlen];exact i2x,hcb,.inr ⟨rfl,d0,hd2,by simp only[hlen];rfl,by simp only[hlen];exact hF⟩⟩,hm⟩
end
section
variable{bud e1 kd m1 md n1 p1 peak z1:Int}{ss:O1}{fn fr fs ft fv ga gd gx mk n t:Nat}{Z:ae}{pa pp pr sv:NY}{w w0:FC}
def me(w0:FC)(ss:O1)(F:O9)(Z:ae)(gw ga n mk:Nat)(live:Int)(l2:ac)(t fv fn fr fs ft:Nat)(col:ac)(ix d:Nat)(X T:Int)(u:NY)(wr:FC)(j:Nat):Prop:=
 ∃(r k:Nat)(s a:Int)(cs:ai),u=.int .u32 a/\cW ⟨col,ix,d,r,k,s⟩ ga n mk live l2 cs t fv fn fr fs ft/\k<=col.length/\j=col.length-k/\0<=s/\s+eo col ix d (col.length-k) r=T/\cD col ix (col.length-k) r=true/\fS a (ea col ix (col.length-k) r)=X/\Own w0 wr (F::(gw,cs)::Z) ss
def ZJ(hk:kx t fv fn fr fs ft)(L:Nat)(live:Int)(col:ac){ix d:Nat}(m p q came:Int)(bv:NY)(st told all e:Int){v:NY}(rs:ae)(hm:Own w0 w ((gd,DRw bud md pa pr pp sv m p q came bv st told all e)::Z) ss)(CM:Hid (∀W f,Own w0 W (f::(gd,DRw bud md pa pr pp sv m p q came bv st told all e)::Z) ss->ak 114 #[gd] W λx w'=>∃gw l2 cs,x=.returned (.tuple #[.iface t (.pointer (some ⟨gw,0,none⟩)),.int .i64 0])/\l2.length=L/\Bytes l2/\cW ⟨col,ix,d,0,0,0⟩ ga n mk live l2 cs t fv fn fr fs ft/\Own w0 w' (f::(gd,DRw bud md pa pr pp sv m p q came bv st told all e)::(gw,cs)::(ga,AR (.slice gx l2.length l2.length) live peak)::(gx,B l2)::rs) ss))(hd2:d<=65536)(hn:col.length<=65536)(s0:0<=st)(s1:st<=1000000000000000000)(hv:cD col ix col.length 0=false):ak 61 #[gd,.agg (aw kd n1 m1 p1 z1 v e1)] w λx w'=>∃gw l2 cs,x=.returned (.int .i64 170)/\l2.length=L/\Bytes l2/\Own w0 w' ((gd,DRw bud md pa pr pp sv m p q came bv (st+bi col ix d) told all e)::(gw,cs)::(ga,AR (.slice gx l2.length l2.length) live peak)::(gx,B l2)::rs) ss:=by
 have h_N:=λgw W=>(fy hk gw W).1;have h_S:=λgw W=>(fy hk gw W).2.2.1;have h_V:=λgw W=>(fy hk gw W).2.2.2.1;have h_R:=λgw W=>(fy hk gw W).2.2.2.2;have hC:=fm (col:=col) (ix:=ix) hd2 col.length 0;rw[<-gC]at hC;have HV:=aa hv;clear hv;have x1:IntKind.i64.wrap (st+bi col ix d)=st+bi col ix d:=av;rcases hk with⟨rfl,rfl,rfl,rfl,rfl,rfl⟩|⟨rfl,rfl,rfl,rfl,rfl,rfl⟩
 all_goals
  go_enter func61,ntmps61
  go_wp2_with(first
   |(go_at_call 114;have _t:=hm;refine(CM.o _ _ hm).mono ?_;clear _t hm;rintro e1 w1⟨gw,l2,cs,rfl,hl2,hb2,hW,hm⟩;replace hm:=hm.dropRow;obtain⟨cs1,hW1,CV⟩:=tx (gw:=gw) (gx:=gx) (peak:=peak) (w0:=w0) (rs:=rs) (ss:=ss) hW HV.o;have HB2:=aa hb2;have HL2:=aa hl2;have HW1:=aa hW1;have CVh:=aa CV;clear hW hW1 CV hb2 hl2)
   |((first|go_at_call 28|go_at_call 29);refine MP (CVh.o _ _ hm) ?_;clear hm;intro w2 hm)
   |with_reducible refine wb hm ?_;clear hm;intro w g hm)
  go_loopw[8] (λu wr=>u=.int .u32 0/\Own w0 wr ((gd,DRw bud md pa pr pp sv m p q came bv st told all e)::(gw,cs1)::(ga,AR (.slice gx l2.length l2.length) live peak)::(gx,B l2)::rs) ss) (λ_ _=>0)
  case atStart=>exact⟨rfl,hm⟩
  case round=>
   clear hm;obtain⟨rfl,hm⟩:=hrel
   go_upto_region 11 with fail
   refine rO hm 9 (.am [(0,false),(1,false),(2,false),(3,true),(4,false)] (.one 5 (.am [(6,false),(7,false),(8,false)] (.brk 9 10 .done)))) ?_;clear hm;intro w hm;simp only[KT.am]
   iterate 3 refine kq ?_
   refine km (λW hm=>ld 0 hm rfl rfl rfl (ot rfl) rfl) ?_;refine kq ?_;refine DJ rfl rfl (λK hK=>?_);go_simp;refine MW (HW1.o.steps _ _ _ hm) ?_;refine hK _ _ ⟨λW=>Own _ W _ _,λ_ h=>h,hm,?_⟩;clear hK K
   try simp only[Act.put,s3]
   refine bj rfl rfl (λW=>by go_simp;(first|rw[aZ _ FP];done|rw[aZ _ FP];rfl|rfl)) ?_
   try simp only[Act.put,s3]
   iterate 2 refine kq ?_
   refine Em rfl rfl (AZ 0 hm rfl rfl (Ac rfl) rfl (ot rfl) G5 rfl rfl rfl ?_)
   clear hm;intro w hm
   try simp only[puts,s2,List.set,List.eraseIdx,s3]at hm
   refine⟨λW=>Own _ W _ _,hm,?_⟩
   try simp only[Act.put,s3]
   refine Ba ?_;go_simp;go_wp2;go_ret;exact⟨gw,l2,cs1,rfl,HL2.o,HB2.o,hm⟩
def A5m(hk:kx t fv fn fr fs ft)(L:Nat)(live:Int)(col:ac){ix d:Nat}(m p q came:Int)(bv:NY)(st told all e:Int){v:NY}(rs:ae)(hm:Own w0 w ((gd,DRw bud md pa pr pp sv m p q came bv st told all e)::Z) ss)(CM:Hid (∀W f,Own w0 W (f::(gd,DRw bud md pa pr pp sv m p q came bv st told all e)::Z) ss->ak 114 #[gd] W λx w'=>∃gw l2 cs,x=.returned (.tuple #[.iface t (.pointer (some ⟨gw,0,none⟩)),.int .i64 0])/\l2.length=L/\Bytes l2/\cW ⟨col,ix,d,0,0,0⟩ ga n mk live l2 cs t fv fn fr fs ft/\Own w0 w' (f::(gd,DRw bud md pa pr pp sv m p q came bv st told all e)::(gw,cs)::(ga,AR (.slice gx l2.length l2.length) live peak)::(gx,B l2)::rs) ss))(hd2:d<=65536)(hn:col.length<=65536)(s0:0<=st)(s1:st<=1000000000000000000)(hv:cD col ix col.length 0=true)(hq:fS 0 (ea col ix col.length 0)≠q):ak 61 #[gd,.agg (aw kd n1 m1 p1 z1 v e1)] w λx w'=>∃gw l2 cs,x=.returned (.int .i64 250)/\l2.length=L/\Bytes l2/\Own w0 w' ((gd,DRw bud md pa pr pp sv m p q came bv (st+(bi col ix d+bi col ix d)) told all e)::(gw,cs)::(ga,AR (.slice gx l2.length l2.length) live peak)::(gx,B l2)::rs) ss:=by
 have h_N:=λgw W=>(fy hk gw W).1;have h_S:=λgw W=>(fy hk gw W).2.2.1;have h_V:=λgw W=>(fy hk gw W).2.2.2.1;have h_R:=λgw W=>(fy hk gw W).2.2.2.2;have hC:=fm (col:=col) (ix:=ix) hd2 col.length 0;rw[<-gC]at hC;have HV:=aa hv;clear hv;obtain⟨X,hX⟩:∃X,fS 0 (ea col ix col.length 0)=X:=⟨_,rfl⟩;obtain⟨T,hT⟩:∃T,bi col ix d+bi col ix d=T:=⟨_,rfl⟩;rw[hX]at hq;have HX:=aa hX;have HT:=aa hT;clear hX hT;obtain⟨i1,hE1⟩:=i8;have HE1:=aa hE1;obtain⟨i2,hE2⟩:=wO;have HE2:=aa hE2;clear hE1 hE2;rcases hk with⟨rfl,rfl,rfl,rfl,rfl,rfl⟩|⟨rfl,rfl,rfl,rfl,rfl,rfl⟩
 all_goals
  go_enter func61,ntmps61
  go_wp2_with(first
   |(go_at_call 114;have _t:=hm;refine(CM.o _ _ hm).mono ?_;clear _t hm;rintro e1 w1⟨gw,l2,cs,rfl,hl2,hb2,hW,hm⟩;replace hm:=hm.dropRow;obtain⟨cs1,hW1,CV⟩:=tx (gw:=gw) (gx:=gx) (peak:=peak) (w0:=w0) (rs:=rs) (ss:=ss) hW HV.o;have HB2:=aa hb2;have HL2:=aa hl2;have HW1:=aa hW1;have CVh:=aa CV;clear hW hW1 CV hb2 hl2)
   |((first|go_at_call 28|go_at_call 29);refine MP (CVh.o _ _ hm) ?_;clear hm;intro w2 hm)
   |with_reducible refine wb hm ?_;clear hm;intro w g hm)
  first
  |go_loopw[8] (λu wr=>∃j,me w0 ss (gd,DRw bud md pa pr pp sv m p q came bv st told all e) ((ga,AR (.slice gx l2.length l2.length) live peak)::(gx,B l2)::rs) gw ga n mk live l2 54 28 30 311 312 313 col ix d X T u wr j) (λu wr=>Po (me w0 ss (gd,DRw bud md pa pr pp sv m p q came bv st told all e) ((ga,AR (.slice gx l2.length l2.length) live peak)::(gx,B l2)::rs) gw ga n mk live l2 54 28 30 311 312 313 col ix d X T u wr));case atStart=>exact⟨_,0,0,_,0,cs1,rfl,HW1.o,dD _,rfl,FP,by rw[jc,<-gC];exact HT.o,by rw[jc];exact HV.o,by rw[jc];exact HX.o,hm⟩
  |go_loopw[8] (λu wr=>∃j,me w0 ss (gd,DRw bud md pa pr pp sv m p q came bv st told all e) ((ga,AR (.slice gx l2.length l2.length) live peak)::(gx,B l2)::rs) gw ga n mk live l2 57 29 31 314 315 316 col ix d X T u wr j) (λu wr=>Po (me w0 ss (gd,DRw bud md pa pr pp sv m p q came bv st told all e) ((ga,AR (.slice gx l2.length l2.length) live peak)::(gx,B l2)::rs) gw ga n mk live l2 57 29 31 314 315 316 col ix d X T u wr));case atStart=>exact⟨_,0,0,_,0,cs1,rfl,HW1.o,dD _,rfl,FP,by rw[jc,<-gC];exact HT.o,by rw[jc];exact HV.o,by rw[jc];exact HX.o,hm⟩
  case round=>
   clear hm;obtain⟨n0,hn0⟩:=hrel;have hn:=YV hn0;clear hn0;obtain⟨r,k,s,a,cs,rfl,hW,hkl,hj,hs0,hT,hVl,hXl,hm⟩:=hn;have hrb:=(fm (col:=col) (ix:=ix) hd2 (col.length-k) r).1;by_cases hkk:k<col.length
   .obtain⟨i,hi⟩:∃i,col.length-k=i+1:=⟨col.length-k-1,FP⟩;rw[hi]at hT hVl hXl hrb;have hr:r≠ix:=λh=>by rw[cD,aQ h]at hVl;cases hVl
    rw[oy hr]at hT;rw[cD,aP hr]at hVl;rw[ea,aP hr]at hXl;have hrb2:=(fm (col:=col) (ix:=ix) hd2 i (bc col (Iw ix r)).toNat).1;have hc0:0<=(if d=0 then(1:Int)else 1+((Iw ix r%d:Nat):Int)):=by split<;>omega
    obtain⟨cs2,hW2,CN⟩:=EA (gw:=gw) (gx:=gx) (peak:=peak) (w0:=w0) (rs:=rs) (ss:=ss) hW hr hkk hs0 Lc;have CNh:=aa CN;have HW2:=aa hW2;have HTl:=aa hT;have HVl:=aa hVl;have HXl:=aa hXl;have HC0:=aa hc0;have HJ:=aa hj;clear CN hW2 hW hT hVl hXl hj hrb hr hrb2 hc0
    go_wp2_with(first
     |((first|go_at_call 30|go_at_call 31);refine MP (CNh.o _ _ hm) ?_;clear hm;intro w1 hm)
     |refine Ad rfl (JQ hm rfl HE1.o (Ac rfl) rfl ?_);clear hm;intro w g1 hm
     |refine Ad rfl (JQ hm rfl HE2.o (Ac rfl) rfl ?_);clear hm;intro w g2 hm
     |(go_at_call 107;have _t:=hm;refine(nV a [[gi col (Iw ix r)]] (uW hm) G5 G5).mono ?_;rintro e1 w1⟨rfl,hb⟩;replace hm:=(hm.call hb).dropRow.dropRow;clear hb _t))
    exact J0
   .obtain rfl:k=col.length:=FP
    rw[iV,sg,jf]at hT;rw[iV]at hXl;subst hT;have CNh:=aa (hW.done (gw:=gw) (gx:=gx) (peak:=peak) (w0:=w0) (rs:=rs) (ss:=ss) rfl hs0 MF);obtain rfl:a=X:=hXl;have HW:=aa hW;have x1:IntKind.i64.wrap (st+s)=st+s:=aZ _ Lc;have x2:(a !=q)=true:=by simpa using hq
    clear hW hVl hj hrb
    go_upto_region 11 with(first
     |((first|go_at_call 30|go_at_call 31);refine MP (CNh.o _ _ hm) ?_;clear hm;intro w1 hm)
     |with_reducible refine wl 72 0 hm ?_)
    refine rO hm 9 (.am [(0,false),(1,false),(2,false),(3,true),(4,false)] (.one 5 (.am [(6,false),(7,false),(8,false)] (.brk 9 10 .done)))) ?_;clear hm;intro w hm;simp only[KT.am]
    iterate 3 refine kq ?_
    refine km (λW hm=>ld 0 hm rfl rfl rfl (ot rfl) rfl) ?_;refine kq ?_;refine DJ rfl rfl (λK hK=>?_);go_simp;refine MW (HW.o.steps _ _ _ hm) ?_;refine hK _ _ ⟨λW=>Own _ W _ _,λ_ h=>h,hm,?_⟩;clear hK K
    try simp only[Act.put,s3]
    refine bj rfl rfl (λW=>by go_simp;(first|rw[aZ _ FP];done|rw[aZ _ FP];rfl|rfl)) ?_
    try simp only[Act.put,s3]
    iterate 2 refine kq ?_
    refine Em rfl rfl (AZ 0 hm rfl rfl (Ac rfl) rfl (ot rfl) G5 rfl rfl rfl ?_)
    clear hm;intro w hm
    try simp only[puts,s2,List.set,List.eraseIdx,s3]at hm
    refine⟨λW=>Own _ W _ _,hm,?_⟩
    try simp only[Act.put,s3]
    refine Ba ?_;go_simp
    go_wp2_with(first
   |((first|go_at_call 30|go_at_call 31);refine MP (CNh.o _ _ hm) ?_;clear hm;intro w1 hm)
   |with_reducible refine wl 72 0 hm ?_)
    go_ret;exact⟨gw,l2,_,rfl,HL2.o,HB2.o,by rw[HT.o];exact hm⟩
def VK(hk:kx t fv fn fr fs ft)(L:Nat)(live:Int)(col:ac){ix d:Nat}(m p q came:Int)(bv:NY)(st told all e:Int){v:NY}(rs:ae)(hm:Own w0 w ((gd,DRw bud md pa pr pp sv m p q came bv st told all e)::Z) ss)(CM:Hid (∀W f,Own w0 W (f::(gd,DRw bud md pa pr pp sv m p q came bv st told all e)::Z) ss->ak 114 #[gd] W λx w'=>∃gw l2 cs,x=.returned (.tuple #[.iface t (.pointer (some ⟨gw,0,none⟩)),.int .i64 0])/\l2.length=L/\Bytes l2/\cW ⟨col,ix,d,0,0,0⟩ ga n mk live l2 cs t fv fn fr fs ft/\Own w0 w' (f::(gd,DRw bud md pa pr pp sv m p q came bv st told all e)::(gw,cs)::(ga,AR (.slice gx l2.length l2.length) live peak)::(gx,B l2)::rs) ss))(hd2:d<=65536)(hn:col.length<=65536)(s0:0<=st)(s1:st<=1000000000000000000)(hv:cD col ix col.length 0=true)(hq:fS 0 (ea col ix col.length 0)=q):ak 61 #[gd,.agg (aw kd n1 m1 p1 z1 v e1)] w λx w'=>∃gw l2 cs,x=.returned (.int .i64 0)/\l2.length=L/\Bytes l2/\cW ⟨col,ix,d,0,0,bi col ix d+bi col ix d⟩ ga n mk live l2 cs t fv fn fr fs ft/\Own w0 w' ((gd,DRw bud md pa pr pp sv m p q came (.iface t (.pointer (some ⟨gw,0,none⟩))) st told all e)::(gw,cs)::(ga,AR (.slice gx l2.length l2.length) live peak)::(gx,B l2)::rs) ss:=by
 have h_N:=λgw W=>(fy hk gw W).1;have h_S:=λgw W=>(fy hk gw W).2.2.1;have h_V:=λgw W=>(fy hk gw W).2.2.2.1;have h_R:=λgw W=>(fy hk gw W).2.2.2.2;have hC:=fm (col:=col) (ix:=ix) hd2 col.length 0;rw[<-gC]at hC;have HV:=aa hv;clear hv;obtain⟨X,hX⟩:∃X,fS 0 (ea col ix col.length 0)=X:=⟨_,rfl⟩;obtain⟨T,hT⟩:∃T,bi col ix d+bi col ix d=T:=⟨_,rfl⟩;rw[hX]at hq;have HX:=aa hX;have HT:=aa hT;clear hX hT;obtain⟨i1,hE1⟩:=i8;have HE1:=aa hE1;obtain⟨i2,hE2⟩:=wO;have HE2:=aa hE2;clear hE1 hE2;rcases hk with⟨rfl,rfl,rfl,rfl,rfl,rfl⟩|⟨rfl,rfl,rfl,rfl,rfl,rfl⟩
 all_goals
  go_enter func61,ntmps61
  go_wp2_with(first
  |(go_at_call 114;have _t:=hm;refine(CM.o _ _ hm).mono ?_;clear _t hm;rintro e1 w1⟨gw,l2,cs,rfl,hl2,hb2,hW,hm⟩;replace hm:=hm.dropRow;obtain⟨cs1,hW1,CV⟩:=tx (gw:=gw) (gx:=gx) (peak:=peak) (w0:=w0) (rs:=rs) (ss:=ss) hW HV.o;have HB2:=aa hb2;have HL2:=aa hl2;have HW1:=aa hW1;have CVh:=aa CV;clear hW hW1 CV hb2 hl2)
  |((first|go_at_call 28|go_at_call 29);refine MP (CVh.o _ _ hm) ?_;clear hm;intro w2 hm)
  |refine UV ?_;try(clear hm;intro w gp hm))
  first
  |go_loopw[8] (λu wr=>∃j,me w0 ss (gd,DRw bud md pa pr pp sv m p q came bv st told all e) ((ga,AR (.slice gx l2.length l2.length) live peak)::(gx,B l2)::rs) gw ga n mk live l2 54 28 30 311 312 313 col ix d X T u wr j) (λu wr=>Po (me w0 ss (gd,DRw bud md pa pr pp sv m p q came bv st told all e) ((ga,AR (.slice gx l2.length l2.length) live peak)::(gx,B l2)::rs) gw ga n mk live l2 54 28 30 311 312 313 col ix d X T u wr));case atStart=>exact⟨_,0,0,_,0,cs1,rfl,HW1.o,dD _,rfl,FP,by rw[jc,<-gC];exact HT.o,by rw[jc];exact HV.o,by rw[jc];exact HX.o,hm⟩
  |go_loopw[8] (λu wr=>∃j,me w0 ss (gd,DRw bud md pa pr pp sv m p q came bv st told all e) ((ga,AR (.slice gx l2.length l2.length) live peak)::(gx,B l2)::rs) gw ga n mk live l2 57 29 31 314 315 316 col ix d X T u wr j) (λu wr=>Po (me w0 ss (gd,DRw bud md pa pr pp sv m p q came bv st told all e) ((ga,AR (.slice gx l2.length l2.length) live peak)::(gx,B l2)::rs) gw ga n mk live l2 57 29 31 314 315 316 col ix d X T u wr));case atStart=>exact⟨_,0,0,_,0,cs1,rfl,HW1.o,dD _,rfl,FP,by rw[jc,<-gC];exact HT.o,by rw[jc];exact HV.o,by rw[jc];exact HX.o,hm⟩
  case round=>
   clear hm;obtain⟨n0,hn0⟩:=hrel;have hn:=YV hn0;clear hn0;obtain⟨r,k,s,a,cs,rfl,hW,hkl,hj,hs0,hT,hVl,hXl,hm⟩:=hn;have hrb:=(fm (col:=col) (ix:=ix) hd2 (col.length-k) r).1;by_cases hkk:k<col.length
   .obtain⟨i,hi⟩:∃i,col.length-k=i+1:=⟨col.length-k-1,FP⟩;rw[hi]at hT hVl hXl hrb;have hr:r≠ix:=λh=>by rw[cD,aQ h]at hVl;cases hVl
    rw[oy hr]at hT;rw[cD,aP hr]at hVl;rw[ea,aP hr]at hXl;have hrb2:=(fm (col:=col) (ix:=ix) hd2 i (bc col (Iw ix r)).toNat).1;have hc0:0<=(if d=0 then(1:Int)else 1+((Iw ix r%d:Nat):Int)):=by split<;>omega
    obtain⟨cs2,hW2,CN⟩:=EA (gw:=gw) (gx:=gx) (peak:=peak) (w0:=w0) (rs:=rs) (ss:=ss) hW hr hkk hs0 Lc;have CNh:=aa CN;have HW2:=aa hW2;have HTl:=aa hT;have HVl:=aa hVl;have HXl:=aa hXl;have HC0:=aa hc0;have HJ:=aa hj;clear CN hW2 hW hT hVl hXl hj hrb hr hrb2 hc0
    go_wp2_with(first
    |((first|go_at_call 30|go_at_call 31);refine MP (CNh.o _ _ hm) ?_;clear hm;intro w1 hm)
    |refine Ad rfl (JQ hm rfl HE1.o (Ac rfl) rfl ?_);clear hm;intro w g1 hm
    |refine Ad rfl (JQ hm rfl HE2.o (Ac rfl) rfl ?_);clear hm;intro w g2 hm
    |(go_at_call 107;have _t:=hm;refine(nV a [[gi col (Iw ix r)]] (uW hm) G5 G5).mono ?_;rintro e1 w1⟨rfl,hb⟩;replace hm:=(hm.call hb).dropRow.dropRow;clear hb _t)
    |refine UV ?_;try(clear hm;intro w gp hm))
    exact J0
   .obtain rfl:k=col.length:=FP
    rw[iV,sg,jf]at hT;rw[iV]at hXl;subst hT;have CNh:=aa (hW.done (gw:=gw) (gx:=gx) (peak:=peak) (w0:=w0) (rs:=rs) (ss:=ss) rfl hs0 MF);obtain rfl:a=X:=hXl;obtain⟨cs3,hW3,CR⟩:=Rm (gw:=gw) (w0:=w0) (ss:=ss) hW;have HW3:=aa hW3;have CRh:=aa CR;subst hq;have x2:(a !=a)=false:=G5
    clear hW hVl hj hrb hW3 CR
    go_wp2_with(first
    |((first|go_at_call 30|go_at_call 31);refine MP (CNh.o _ _ hm) ?_;clear hm;intro w1 hm)
    |((first|go_at_call 311|go_at_call 314);refine MP (CRh.o _ _ _ hm) ?_;clear hm;intro w1 hm)
    |refine UV ?_;try(clear hm;intro w gp hm))
    go_ret;exact⟨gw,l2,cs3,rfl,HL2.o,HB2.o,by rw[HT.o];exact HW3.o,hm⟩
end
section
variable{N live md mo peak:Int}{l:ac}{ga mk n:Nat}{S:ae}{sv:NY}
def yJ(n mk:Nat)(mo:Int):Prop:=(mo=3/\mk=4*(n+1))\/(mo=1/\mk=1024*(n/8192))\/(mo=2/\mk=1024*(n/1024))
def pj(S:ae)(sv:NY)(n mk:Nat):Prop:=∃(gs sp spc:Nat)(sc:ai),sv=.slice (some ⟨gs,sp,none⟩) 2 spc/\S=[(gs,sc)]/\sc[sp]?=some (.int .i64 0)/\sc[sp+1]?=some (.int .i64 n)/\sc[sp+2]?=some (.int .i64 n)/\sc[sp+3]?=some (.int .i64 mk)
def pj.qd(h:Lies 2 S sv 2 [.int .i64 0,.int .i64 n,.int .i64 n,.int .i64 mk]):pj S sv n mk:=by
 rcases h.2 with⟨_,h,_⟩|⟨g,p,c,cells,rfl,rfl,_,_,hc⟩
 .cases h
 .exact⟨g,p,c,cells,rfl,rfl,hc 0 G5,hc 1 G5,hc 2 G5,hc 3 G5⟩
def fa(s:Dk)(l:ac)(md live peak:Int)(sv:NY)(S:ae)(n mk:Nat):Prop:=match s.hd with
|none=>md=0/\live=0/\peak=0/\sv=.slice none 0 0/\S=[]/\s.out=[]
|some (N,mo)=>N=n/\md=mo/\1<=n/\n<=65536/\yJ n mk mo/\live=n+mk/\pj S sv n mk/\s.out.length<=n/\Jp l 0 s.out.length=s.out
def fw(s:Dk)(l:ac)(live:Int)(ga n mk:Nat)(bv:NY)(X:ae):Prop:=match s.bk with
|none=>bv=.nilIface/\X=[]
|some w=>∃(gw:Nat)(cs:ai)(t fv fn fr fs ft:Nat),X=[(gw,cs)]/\bv=.iface t (.pointer (some ⟨gw,0,none⟩))/\cW w ga n mk live l cs t fv fn fr fs ft/\(w.col.length:Int)=s.m/\w.k<w.col.length/\cD w.col w.ix (w.col.length-w.k) w.r=true/\0<=w.st/\w.d<=65536/\w.st+eo w.col w.ix w.d (w.col.length-w.k) w.r<=40000000000
def fa.qn{s:Dk}(h:s.hd=none)(hc:md=0/\live=0/\peak=0/\sv=.slice none 0 0/\S=[]/\s.out=[]):fa s l md live peak sv S n mk:=by
 rw[fa,h];exact hc
def fa.s6{s:Dk}(h:s.hd=some (N,mo))(hc:N=n/\md=mo/\1<=n/\n<=65536/\yJ n mk mo/\live=n+mk/\pj S sv n mk/\s.out.length<=n/\Jp l 0 s.out.length=s.out):fa s l md live peak sv S n mk:=by
 rw[fa,h];exact hc
def fw.qn{s:Dk}(h:s.bk=none):fw s l live ga n mk .nilIface []:=by
 rw[fw,h];exact⟨rfl,rfl⟩
def Dk.dp(s:Dk):Int:=match s.hd with
|none=>0
|some (_,mo)=>mo
def da(bud gd gr gp:Nat)(s:Dk)(ec:Int)(D:ae):Prop:=∃(ga gx n mk:Nat)(l:ac)(md live peak:Int)(sv bv:NY)(S X:ae),
 l.length=bud/\Bytes l/\0<=peak/\peak<=bud/\live<=bud/\
 D=(gd,DRw bud md (.pointer (some ⟨ga,0,none⟩)) (.pointer (some ⟨gr,0,none⟩)) (.pointer (some ⟨gp,0,none⟩)) sv s.m s.p s.q s.out.length bv s.st s.told s.all ec)::(X++((ga,AR (.slice (some ⟨gx,0,none⟩) l.length l.length) live peak)::(gx,B l)::S))/\
 (md=s.dp/\(s.bk=none->bv=.nilIface))/\(s.e=0->fa s l md live peak sv S n mk/\fw s l live ga n mk bv X)
def da.row{bud gd gr gp:Nat}{s:Dk}{ec:Int}{D:ae}(h:da bud gd gr gp s ec D):∃(md:Int)(pa sv:NY)(bv:NY)(RR:ae),D=(gd,DRw bud md pa (.pointer gr) (.pointer gp) sv s.m s.p s.q s.out.length bv s.st s.told s.all ec)::RR:=by
 obtain⟨ga,gx,n,mk,l,md,live,peak,sv,bv,S,X,_,_,_,_,_,rfl,_⟩:=h;exact⟨_,_,_,_,_,rfl⟩
structure qr(w:Wk):Prop where
 k:w.k<w.col.length
 n:w.col.length<=65536
 s0:0<=w.st
 d:w.d<=65536
 v:cD w.col w.ix (w.col.length-w.k) w.r=true
 s1:w.st+eo w.col w.ix w.d (w.col.length-w.k) w.r<=40000000000
def qr.step{w:Wk}(h:qr w):w.r≠w.ix/\0<=w.next.st/\w.next.st<=40000000000/\(w.k+1<w.col.length->qr w.next):=by
 obtain⟨hk,hn,s0,d,hv,s1⟩:=h;obtain⟨i,hi⟩:∃i,w.col.length-w.k=i+1:=⟨w.col.length-w.k-1,FP⟩;rw[hi]at hv s1;have hr:w.r≠w.ix:=λe=>by rw[cD,aQ e]at hv;cases hv
 rw[cD,aP hr]at hv;rw[oy hr]at s1;have hc:w.cost=(if w.d=0 then 1 else 1+((Iw w.ix w.r%w.d:Nat):Int)):=rfl;rw[<-hc]at s1;have hc0:0<=w.cost:=by rw[hc];split<;>omega
 have hro:=(fm (col:=w.col) (ix:=w.ix) d i (bc w.col (Iw w.ix w.r)).toNat).1;have e:w.next.st=w.st+w.cost:=rfl;refine⟨hr,FP,FP,λhlt=>⟨hlt,hn,FP,d,?_,?_⟩⟩
 .show cD w.col w.ix (w.col.length-(w.k+1)) (bc w.col (Iw w.ix w.r)).toNat=true;rw[show w.col.length-(w.k+1)=i by omega];exact hv
 .show w.next.st+eo w.col w.ix w.d (w.col.length-(w.k+1)) (bc w.col (Iw w.ix w.r)).toNat<=40000000000;rw[show w.col.length-(w.k+1)=i by omega];omega
structure DI(s:Dk):Prop where
 hd:s.e=0->match s.hd with
 |none=>s.c.s.ph=0/\∀N m p q g,EI s.c N m p q g
 |some (N,_)=>s.c.s.ph≠0/\EI s.c N s.m s.p s.q s.out.length
 bk:s.e=0->∀w,s.bk=some w->(w.col.length:Int)=s.m/\qr w/\s.c.s.ph=1
section
variable{bud gd gr gp:Nat}{s:Dk}{D:ae}{w0 w:FC}{rs:ae}{ss:O1}
def Vr(h:da bud gd gr gp s 0 D)(he:s.e=0)(hm:Own w0 w (D++rs) ss)(t0:0<=s.told)(t1:s.told<=1000000000000)(s0:0<=s.st)(s1:s.st<=1000000000000000000):ak 63 #[gd] w λx w'=>(∃wk D2,s.bk=some wk/\x=.returned (.tuple #[.int .u8 wk.byte,.bool true])/\da bud gd gr gp (s.tell wk) 0 D2/\Own w0 w' (D2++rs) ss)\/(s.bk=none/\x=.returned (.tuple #[.int .u8 0,.bool false])/\w'=w):=by
 obtain⟨ga,gx,n,mk,l,md,live,peak,sv,bv,S,X,hl,hb,p0,p1,lv,rfl,hz,hh⟩:=h;obtain⟨hH,hB⟩:=hh he;cases hbk:s.bk with
|none=>
  rw[fw,hbk]at hB;obtain⟨rfl,rfl⟩:=hB;refine MW (A6v s.m s.p s.q s.out.length s.st s.told s.all 0 hm) ?_;exact .inr ⟨rfl,rfl,rfl⟩
|some wk=>
  rw[fw,hbk]at hB;obtain⟨gw,cs,t,fv,fn,fr,fs,ft,rfl,rfl,hW,hcm,hk,hv,hst,hd,hbd⟩:=hB;obtain⟨i,hi⟩:∃i,wk.col.length-wk.k=i+1:=⟨wk.col.length-wk.k-1,FP⟩;rw[hi]at hv hbd;have hr:wk.r≠wk.ix:=λe=>by rw[cD,aQ e]at hv;cases hv
  rw[cD,aP hr]at hv;rw[oy hr]at hbd;have hcost:wk.next.st=wk.st+wk.cost:=rfl;have hcb:wk.cost=(if wk.d=0 then 1 else 1+((Iw wk.ix wk.r%wk.d:Nat):Int)):=rfl;have hc0:0<=wk.cost:=by rw[hcb];split<;>omega
  rw[<-hcb]at hbd;have hro:=(fm (col:=wk.col) (ix:=wk.ix) hd i (bc wk.col (Iw wk.ix wk.r)).toNat).1;obtain⟨cs2,hW2,CN⟩:=hW.next (gw:=gw) (gx:=gx) (peak:=peak) (w0:=w0) (rs:=S++rs) (ss:=ss) hr hk hst FP;have e1:wk.col.length-(wk.k+1)=i:=FP
  refine(WX hW.kd wk.byte ((wk.k+1:Nat):Int) wk.next.st s.m s.p s.q s.out.length s.st s.told s.all 0 hm (aa CN) (aa λW f h=>hW2.told W f _ h) (aa λW f h=>hW2.steps W f _ h) t0 t1 s0 s1 FP FP).mono ?_;rintro x w'⟨rfl,hm⟩;by_cases hkm:((wk.k+1:Nat):Int)=s.m
  .rw[aQ hkm,aQ hkm]at hm;have et:s.tell wk={s with bk:=none,told:=s.told+1,all:=crc s.all [[wk.byte]],st:=s.st+wk.next.st}:=aQ hkm;refine .inl ⟨wk,(gd,DRw bud md (.pointer ga) (.pointer gr) (.pointer gp) sv s.m s.p s.q s.out.length .nilIface (s.st+wk.next.st) (s.told+1) (crc s.all [[wk.byte]]) 0)::([]++((ga,AR (.slice gx l.length l.length) live peak)::(gx,B l)::S)),rfl,rfl,?h,?g⟩
   case h=>
    rw[et];exact⟨ga,gx,n,mk,l,md,live,peak,sv,_,S,[],hl,hb,p0,p1,lv,rfl,⟨hz.1,λ_=>rfl⟩,λ_=>⟨hH,rfl,rfl⟩⟩
   case g=>exact hm.sub (jw _ (qY _ (aY _))) (aY _)
  .rw[aP hkm,aP hkm]at hm;have et:s.tell wk={s with bk:=some wk.next,told:=s.told+1,all:=crc s.all [[wk.byte]]}:=aP hkm;refine .inl ⟨wk,(gd,DRw bud md (.pointer ga) (.pointer gr) (.pointer gp) sv s.m s.p s.q s.out.length (.iface t (.pointer gw)) s.st (s.told+1) (crc s.all [[wk.byte]]) 0)::([(gw,cs2)]++((ga,AR (.slice gx l.length l.length) live peak)::(gx,B l)::S)),rfl,rfl,?h,?g⟩
   case h=>
    rw[et];refine⟨ga,gx,n,mk,l,md,live,peak,sv,_,S,[(gw,cs2)],hl,hb,p0,p1,lv,rfl,⟨hz.1,λh=>G6⟩,λ_=>⟨hH,gw,cs2,t,fv,fn,fr,fs,ft,rfl,rfl,hW2,hcm,?_,?_,?_,hd,?_⟩⟩
    .show wk.k+1<wk.col.length;omega
    .show cD wk.col wk.ix (wk.col.length-(wk.k+1)) (bc wk.col (Iw wk.ix wk.r)).toNat=true;rw[e1];exact hv
    .show 0<=wk.next.st;omega
    .show wk.next.st+eo wk.col wk.ix wk.d (wk.col.length-(wk.k+1)) (bc wk.col (Iw wk.ix wk.r)).toNat<=40000000000;rw[e1];omega
   case g=>exact hm
end
end
section
variable{N mo:Int}{T b l out:ac}{n p:Nat}{A:ae}
def xi:Jp l 0 n=l.take n:=by simp[Jp,seg]
def A5L(h:p+b.length<=l.length):(f9 l p b).length=l.length:=by
 simp only[f9,aV,fZ,dQ];omega
def T4(hl:Bytes l)(hb:Bytes b):Bytes (f9 l p b):=λx hx=>by
 rw[f9,dG,dG]at hx;rcases hx with(hx|hx)|hx
 .exact hl x (jB hx)
 .exact hb x hx
 .exact hl x (iw hx)
def A5M(h:out.length+b.length<=l.length)(hc:Jp l 0 out.length=out):Jp (f9 l (0+out.length) b) 0 (out++b).length=out++b:=by
 rw[xi]at hc⊢;rw[dA,f9,hc];exact zY rfl
def vq{bud:Nat}(b1:1<=bud)(b2:bud<=1048576)(n1:1<=n)(n2:n<=65536)(h:(Pol.pk bud n 2).2=0):∃(mo:Int)(mk:Nat),Pol.pk bud n 2=(mo,0)/\yJ n mk mo/\Pol.lay n 2 mo=[(n:Int),mk]/\Pol.er n 2 mo=0/\n+mk<=bud/\(Lit.int .u8 mo).wf=true:=by
 have ha:∀m:Int,m=1\/m=2\/m=3->Pol.dt n 2 m:=λm hm=>⟨FP,FP,.inr rfl,hm⟩;have hb:Pol.mr bud:=⟨FP,FP⟩;have e:Pol.pk bud n 2=Pol.cm bud n 2 3:=by rw[Pol.pk,aQ ⟨ha 1 FP,hb⟩]
 have v1:=Pol.nA (ha 1 FP);have v2:=Pol.nA (ha 2 FP);have v3:=Pol.nA (ha 3 FP);simp only[show¬((2:Int)=1) by omega,show¬((3:Int)=1) by omega,show¬((3:Int)=2) by omega,fP,jq]at v1 v2 v3
 have l1:Pol.lay n 2 1=[(n:Int),((1024*(n/8192):Nat):Int)]:=by
  rw[Pol.lay,aQ (ha 1 FP),aP FP,Pol.lL,aQ rfl,show((1024*(n/8192):Nat):Int)=1024*((n:Int)/8192) by omega]
 have l2:Pol.lay n 2 2=[(n:Int),((1024*(n/1024):Nat):Int)]:=by
  rw[Pol.lay,aQ (ha 2 FP),aP FP,Pol.lL,aP FP,aQ rfl,show((1024*(n/1024):Nat):Int)=1024*((n:Int)/1024) by omega]
 have l3:Pol.lay n 2 3=[(n:Int),((4*(n+1):Nat):Int)]:=by
  rw[Pol.lay,aQ (ha 3 FP),aP FP,Pol.lL,aP FP,aP FP,show((4*(n+1):Nat):Int)=4*((n:Int)+1) by omega]
 rw[e]at h⊢;by_cases h3:Pol.need n 2 ((2+1:Nat):Int)<=bud
 .have e3:Pol.cm bud n 2 3=(3,0):=by rw[Pol.cm,aQ h3];rfl
  have h3':Pol.need n 2 3<=bud:=h3;exact⟨3,4*(n+1),e3,.inl ⟨rfl,rfl⟩,l3,Pol.kj (ha 3 FP),FP,FU⟩
 .by_cases h2:Pol.need n 2 ((1+1:Nat):Int)<=bud
  .have e3:Pol.cm bud n 2 3=(2,0):=by rw[Pol.cm,aP h3,Pol.cm,aQ h2];rfl
   have h2':Pol.need n 2 2<=bud:=h2;exact⟨2,1024*(n/1024),e3,.inr (.inr ⟨rfl,rfl⟩),l2,Pol.kj (ha 2 FP),FP,FU⟩
  .by_cases h1:Pol.need n 2 ((0+1:Nat):Int)<=bud
   .have e3:Pol.cm bud n 2 3=(1,0):=by rw[Pol.cm,aP h3,Pol.cm,aP h2,Pol.cm,aQ h1];rfl
    have h1':Pol.need n 2 1<=bud:=h1;exact⟨1,1024*(n/8192),e3,.inr (.inl ⟨rfl,rfl⟩),l1,Pol.kj (ha 1 FP),FP,FU⟩
   .exact AM
section
variable{bud gd gr gp:Nat}{s:Dk}{D:ae}{w0 w:FC}{rs:ae}{ss:O1}{f:O9}{c2:Cf}{kd n1 m1 p1 s1:Int}{v:NY}{e1:Int}
def Own.mG(h:Own w0 w (f::(A++rs)) ss):Own w0 w (A++(f::rs)) ss:=h.perm jo
def Own.nd(h:Own w0 w (A++(f::rs)) ss):Own w0 w (f::(A++rs)) ss:=h.perm List.perm_middle.symm
def A6t(h:da bud gd gr gp s 0 D)(he:s.e=0)(hk:s.bk=none)(hm:Own w0 w (f::(D++rs)) ss):ak 59 #[gd,.agg (aw kd n1 m1 p1 s1 v e1)] w λx w'=>∃D2,x=.returned (.int .i64 0)/\da bud gd gr gp {s with c:=c2,m:=m1,p:=p1,q:=s1,out:=[]} 0 D2/\Own w0 w' (f::(D2++rs)) ss:=by
 obtain⟨ga,gx,n,mk,l,md,live,peak,sv,bv,S,X,hl,hb,p0,p2,lv,rfl,hz,hh⟩:=h;refine(XD s.m s.p s.q s.out.length s.st s.told s.all 0 hm.mG).mono ?_;rintro x w'⟨rfl,hm⟩;refine⟨_,rfl,⟨ga,gx,n,mk,l,md,live,peak,sv,bv,S,X,hl,hb,p0,p2,lv,rfl,hz,λ_=>?_⟩,Own.nd (A:=_::_) hm⟩;obtain⟨hH,hB⟩:=hh he;rw[fw,hk]at hB;obtain⟨rfl,rfl⟩:=hB;refine⟨?_,fw.qn hk⟩;cases hd:s.hd with
|none=>
  rw[fa,hd]at hH;exact fa.qn rfl ⟨hH.1,hH.2.1,hH.2.2.1,hH.2.2.2.1,hH.2.2.2.2.1,rfl⟩
|some o=>
  rw[fa,hd]at hH;obtain⟨a1,a2,a3,a4,a5,a6,a7,_,_⟩:=hH;exact fa.s6 rfl ⟨a1,a2,a3,a4,a5,a6,a7,dD _,by rw[xi];rfl⟩
def Mm(h:da bud gd gr gp s 0 D)(hm:Own w0 w (f::(D++rs)) ss):ak 62 #[gd,.agg (aw kd n1 m1 p1 s1 v e1)] w (RO (.int .i64 (if s1=s.all then 0 else 260)) w0 (f::(D++rs)) ss):=by
 obtain⟨ga,gx,n,mk,l,md,live,peak,sv,bv,S,X,hl,hb,p0,p2,lv,rfl,hz,hh⟩:=h;refine(A6R s.m s.p s.q s.out.length s.st s.told s.all 0 hm.mG).mono ?_;exact Mk
def Vm(h:da bud gd gr gp s 0 D)(he:s.e=0)(hk:s.bk=none)(hd:s.hd=some (N,mo))(hT:0<T.length)(hTb:Bytes T)(hN:(s.out.length:Int)+T.length<=N){X:ae}(hX:gE X v (vs .u8 T))(b2:bud<=1048576)(hm:Own w0 w (f::(D++(X++rs))) ss):ak 60 #[gd,.agg (aw kd n1 m1 p1 s1 v e1)] w λx w'=>∃D2,x=.returned (.int .i64 0)/\da bud gd gr gp {s with c:=c2,out:=s.out++T} 0 D2/\Own w0 w' (f::(D2++(X++rs))) ss:=by
 obtain⟨ga,gx,n,mk,l,md,live,peak,sv,bv,S,Y,hl,hb,p0,p2,lv,rfl,hz,hh⟩:=h;obtain⟨hH,hB⟩:=hh he;rw[fw,hk]at hB;obtain⟨rfl,rfl⟩:=hB;rw[fa,hd]at hH;obtain⟨rfl,rfl,a3,a4,a5,rfl,⟨gs,sp,spc,sc,rfl,rfl,h0,h1,h2,h3⟩,a8,a9⟩:=hH;rcases hX with⟨rfl,hX,_⟩|⟨gt,tcap,tc,rfl,rfl,htc⟩
 .have:T=[]:=by simpa[vs]using hX
  rw[this]at hT;cases hT
 rw[Ai]at htc⊢
 have ht:∀(j:Nat)(u:NY),(vs .u8 T)[j]?=some u->tc[j]?=some u:=λj u hj=>by
  have hlt:j<T.length:=by have:=(gI.1 hj).1;rwa[Ai]at this
  rw[<-cE,<-nH hlt,htc,hj]
 refine(S8 s.out.length ((n+mk:Nat):Int) s.m s.p s.q .nilIface s.st s.told s.all 0 (by
  have hm:=Own.mG (A:=(_::([]++(_::_::[(gs,sc)])))++[(gt,tc)]) JG
  simpa using hm) h0 h1 ht FP FP FP FP hT).mono ?_
 rintro x w'⟨rfl,hm⟩;have hlen:(f9 l (0+s.out.length) T).length=l.length:=A5L FP;refine⟨_,rfl,⟨ga,gx,n,mk,f9 l (0+s.out.length) T,md,((n+mk:Nat):Int),peak,.slice (some ⟨gs,sp,none⟩) 2 spc,.nilIface,[(gs,sc)],[],by rw[hlen,hl],T4 hb hTb,p0,p2,lv,rfl,⟨hz.1,λ_=>rfl⟩,λ_=>⟨?_,fw.qn hk⟩⟩,?_⟩
 .exact fa.s6 hd ⟨rfl,rfl,a3,a4,a5,rfl,⟨gs,sp,spc,sc,rfl,rfl,h0,h1,h2,h3⟩,by rw[aV];omega,A5M FP a9⟩
 .rw[hlen];have hm:=Own.nd (A:=(_::([]++(_::_::[(gs,sc)])))++[(gt,tc)]) JG;simpa using hm
def A4N(h:da bud gd gr gp s 0 D)(hp:(Pol.pk bud n 2).2≠0)(he:s.e=0)(hm:Own w0 w (f::(D++rs)) ss):ak 58 #[gd,.agg (aw kd n m1 p1 s1 v e1)] w (RO (.int .i64 (Pol.pk bud n 2).2) w0 (f::(D++rs)) ss):=by
 obtain⟨ga,gx,n0,mk,l,md,live,peak,sv,bv,S,X,hl,hb,p0,p2,lv,rfl,hz,hh⟩:=h;refine(ZY gx l s.m s.p s.q s.out.length s.st s.told s.all 0 (Pol.pk bud n 2).2 (Pol.pk bud n 2).1 hm.mG (aa λW=>Pol.pick_any bud n 2 W FU) hp).mono ?_;exact Mk
def Xh(h:da bud gd gr gp s 0 D)(he:s.e=0)(hk:s.bk=none)(hd:s.hd=none)(n1':1<=n)(n2:n<=65536)(b1:1<=bud)(b2:bud<=1048576)(hp:(Pol.pk bud n 2).2=0)(hm:Own w0 w (f::(D++rs)) ss):ak 58 #[gd,.agg (aw kd n m1 p1 s1 v e1)] w λx w'=>∃D2,x=.returned (.int .i64 0)/\da bud gd gr gp {s with c:=c2,hd:=some ((n:Int),(Pol.pk bud n 2).1)} 0 D2/\Own w0 w' (f::(D2++rs)) ss:=by
 obtain⟨ga,gx,n0,mk0,l,md,live,peak,sv,bv,S,X,hl,hb,p0,p2,lv,rfl,hz,hh⟩:=h;obtain⟨hH,hB⟩:=hh he;rw[fw,hk]at hB;obtain⟨rfl,rfl⟩:=hB;rw[fa,hd]at hH;obtain⟨rfl,rfl,rfl,rfl,rfl,ho⟩:=hH;obtain⟨mo,mk,hpk,hMk,hlay,her,hfit,hwf⟩:=vq b1 b2 n1' n2 hp;rw[hpk]
 have CP:Hid (∀W,ak 110 #[.int .i64 bud,.int .i64 n,.int .u8 2] W (Pol.lP W (mo,0))):=λW=>by
  have:=Pol.pick_any bud n 2 W FU;rwa[hpk]at this
 have CL:Hid (∀W,ak 94 #[.int .i64 n,.int .u8 2,.int .u8 mo] W (Pol.iX W [(n:Int),mk] 0)):=λW=>by
  have:=Pol.mT n 2 mo W FU hwf;rwa[hlay,her]at this
 refine(Vn 0 s.m s.p s.q s.out.length .nilIface s.st s.told s.all 0 (f::rs) (by simpa using hm.mG) CP CL hb FP FP).mono ?_;rintro x w'⟨rfl,S,sv,l2,pk,hX,hl2,hb2,q0,q1,hm⟩;refine⟨_,rfl,⟨ga,gx,n,mk,l2,mo,((n+mk:Nat):Int),pk,sv,.nilIface,S,[],FP,hb2,q0,FP,FP,rfl,⟨rfl,λ_=>rfl⟩,λ_=>⟨?_,fw.qn hk⟩⟩,?_⟩
 .exact fa.s6 rfl ⟨rfl,rfl,n1',n2,hMk,rfl,pj.qd hX,by rw[ho];exact dD _,by rw[ho,xi];rfl⟩
 .have hm:=Own.nd (A:=(_::([]++(_::_::S)))) JG;simpa using hm
end
end
def UK:Pol.dist 1=8192/\Pol.dist 2=1024/\Pol.dist 3=0:=FU
section
variable{bud gd gr gp:Nat}{s:Dk}{D:ae}{w0 w:FC}{rs:ae}{ss:O1}{f:O9}{c2:Cf}{kd n1 m1 p1 s1:Int}{v:NY}{e1:Int}
def A6Q(h:da bud gd gr gp s 0 D)(he:s.e=0)(hk:s.bk=none){N mo:Int}(hd:s.hd=some (N,mo))(hm1:1<=s.m)(hmg:(s.out.length:Int)=s.m)(hp1:1<=s.p)(hp2:s.p<=s.m)(hmN:s.m<=N)(b2:bud<=1048576)(s0:0<=s.st)(s1':s.st<=1000000000000000000)(hm:Own w0 w (f::(D++rs)) ss):ak 61 #[gd,.agg (aw kd n1 m1 p1 s1 v e1)] w λx w'=>∃D2,x=.returned (.int .i64 (s.ends c2).e)/\da bud gd gr gp (s.ends c2) 0 D2/\Own w0 w' (f::(D2++rs)) ss:=by
 obtain⟨ga,gx,n,mk,l,md,live,peak,sv,bv,S,Y,hl,hb,p0,p2,lv,rfl,hz,hh⟩:=h;obtain⟨hH,hB⟩:=hh he;rw[fw,hk]at hB;obtain⟨rfl,rfl⟩:=hB;have hH0:=hH;rw[fa,hd]at hH;obtain⟨rfl,rfl,a3,a4,a5,rfl,⟨gs,sp,spc,sc,rfl,rfl,h0,h1,h2,h3⟩,a8,a9⟩:=hH;obtain⟨M,hM⟩:∃M:Nat,s.out.length=M:=⟨_,rfl⟩;obtain⟨ix,hix⟩:∃ix:Nat,s.p.toNat=ix:=⟨_,rfl⟩;have hpx:s.p=ix:=FP
 have hsm:s.m=M:=FP
 obtain⟨d,hdd⟩:∃d:Nat,s.d=d:=⟨_,rfl⟩;have hd2:d=(Pol.dist md).toNat:=by rw[<-hdd,Dk.d,hd]
 obtain⟨v1,v2,v3⟩:=UK
 have HMD:(d=0/\md=3/\4*(M+1)<=mk)\/(0<d/\(md=1\/md=2)/\(d:Int)=Pol.dist md/\1024*(M/d)<=mk):=by
  rcases a5 with⟨rfl,rfl⟩|⟨rfl,rfl⟩|⟨rfl,rfl⟩
  .left;rw[v3]at hd2;exact⟨FP,rfl,FP⟩
  .right;rw[v1]at hd2;have hd3:d=8192:=FP
   subst hd3;exact⟨FP,.inl rfl,by rw[v1];rfl,Nat.mul_le_mul_left _ (EG FP)⟩
  .right;rw[v2]at hd2;have hd3:d=1024:=FP
   subst hd3;exact⟨FP,.inr rfl,by rw[v2];rfl,Nat.mul_le_mul_left _ (EG FP)⟩
 have hd65:d<=65536:=by
  rcases HMD with⟨h,_⟩|⟨_,h,e,_⟩
  .omega
  .rcases h with rfl|rfl
   .rw[v1]at e;omega
   .rw[v2]at e;omega
 obtain⟨t,fv,fn,fr,fs,ft,hkd,ht⟩:∃t fv fn fr fs ft,kx t fv fn fr fs ft/\(t=54↔d=0):=by
  by_cases h:d=0
  .exact⟨54,28,30,311,312,313,.inl ⟨rfl,rfl,rfl,rfl,rfl,rfl⟩,by simp[h]⟩
  .exact⟨57,29,31,314,315,316,.inr ⟨rfl,rfl,rfl,rfl,rfl,rfl⟩,by simp[h]⟩
 have hcol:Jp l 0 M=s.out:=by rw[<-hM];exact a9
 have CM:Hid (∀W f',Own w0 W (f'::(gd,DRw bud md (.pointer ga) (.pointer gr) (.pointer gp) (.slice (some ⟨gs,sp,none⟩) 2 spc) s.m s.p s.q s.out.length .nilIface s.st s.told s.all 0)::((ga,AR (.slice gx l.length l.length) ((n+mk:Nat):Int) peak)::(gx,B l)::(gs,sc)::f::rs)) ss->ak 114 #[gd] W λx w'=>∃gw l2 cs,x=.returned (.tuple #[.iface t (.pointer (some ⟨gw,0,none⟩)),.int .i64 0])/\l2.length=l.length/\Bytes l2/\cW ⟨s.out,ix,d,0,0,0⟩ ga n mk ((n+mk:Nat):Int) l2 cs t fv fn fr fs ft/\Own w0 w' (f'::(gd,DRw bud md (.pointer ga) (.pointer gr) (.pointer gp) (.slice (some ⟨gs,sp,none⟩) 2 spc) s.m s.p s.q s.out.length .nilIface s.st s.told s.all 0)::(gw,cs)::(ga,AR (.slice gx l2.length l2.length) ((n+mk:Nat):Int) peak)::(gx,B l2)::(gs,sc)::f::rs) ss):=λW f' hm=>by
  have hm2:=Own.mG (f:=f') (A:=[_,_,_,_]) hm;rw[hsm,hpx]at hm2⊢;refine(PL ((n+mk:Nat):Int) s.q s.out.length .nilIface s.st s.told s.all 0 hm2 h0 h2 h3 HMD FP FP a4 hb FP FP (by push_cast;omega) FP FP hkd ht).mono ?_;rintro x w'⟨gw,l2,cs,rfl,hl2,hb2,hW,hm⟩;rw[hcol]at hW;exact⟨gw,l2,cs,rfl,hl2,hb2,hW,Own.nd (A:=[_,_,_,_,_]) hm⟩
 have hmm:=by simpa using hm.mG
 have fin:∀(E st2:Int)(s2:Dk),s2.e=E->E≠0->s2.m=s.m->s2.p=s.p->s2.q=s.q->s2.out=s.out->s2.st=st2->s2.told=s.told->s2.all=s.all->s2.hd=s.hd->∀(x:Ending)(w':FC),(∃gw l2 cs,x=.returned (.int .i64 E)/\l2.length=l.length/\Bytes l2/\Own w0 w' ((gd,DRw bud md (.pointer ga) (.pointer gr) (.pointer gp) (.slice (some ⟨gs,sp,none⟩) 2 spc) s.m s.p s.q s.out.length .nilIface st2 s.told s.all 0)::(gw,cs)::(ga,AR (.slice gx l2.length l2.length) ((n+mk:Nat):Int) peak)::(gx,B l2)::(gs,sc)::f::rs) ss)->∃D2,x=.returned (.int .i64 s2.e)/\da bud gd gr gp s2 0 D2/\Own w0 w' (f::(D2++rs)) ss:=by
  rintro E st2 s2 rfl hE e2 e3 e4 e5 rfl e7 e8 e9 x w' ⟨gw,l2,cs,rfl,hl2,hb2,hm⟩;refine⟨_,rfl,⟨ga,gx,n,mk,l2,md,((n+mk:Nat):Int),peak,.slice (some ⟨gs,sp,none⟩) 2 spc,.nilIface,[(gs,sc)],[(gw,cs)],FP,hb2,p0,p2,lv,rfl,⟨by rw[Dk.dp,e9];exact hz.1,λ_=>rfl⟩,λh=>absurd h hE⟩,?_⟩;rw[e2,e3,e4,e5,e7,e8];have hm:=Own.nd (A:=[_,_,_,_,_]) hm;simpa using hm
 by_cases hv:cD s.out ix s.out.length 0=true
 .by_cases hq:fS 0 (ea s.out ix s.out.length 0)=s.q
  .have es:s.ends c2={s with c:=c2,bk:=some ⟨s.out,ix,d,0,0,bi s.out ix d+bi s.out ix d⟩}:=by
    rw[Dk.ends,hix,hdd,aQ hv,aQ hq]
   rw[es];refine(VK hkd l.length ((n+mk:Nat):Int) s.out s.m s.p s.q s.out.length .nilIface s.st s.told s.all 0 ((gs,sc)::f::rs) hmm CM hd65 FP s0 s1' hv hq).mono ?_;rintro x w'⟨gw,l2,cs,rfl,hl2,hb2,hW,hm⟩;have hbd:=fm (col:=s.out) (ix:=ix) hd65 s.out.length 0;refine⟨_,by rw[show({s with c:=c2,bk:=some ⟨s.out,ix,d,0,0,bi s.out ix d+bi s.out ix d⟩}:Dk).e=s.e from rfl,he],⟨ga,gx,n,mk,l2,md,((n+mk:Nat):Int),peak,.slice (some ⟨gs,sp,none⟩) 2 spc,.iface t (.pointer (some ⟨gw,0,none⟩)),[(gs,sc)],[(gw,cs)],FP,hb2,p0,p2,lv,rfl,⟨hz.1,λh=>G6⟩,λ_=>⟨?_,?_⟩⟩,?_⟩
   .refine fa.s6 hd ⟨rfl,rfl,a3,a4,a5,rfl,⟨gs,sp,spc,sc,rfl,rfl,h0,h1,h2,h3⟩,a8,hW.col⟩
   .rw[fw];simp only;refine⟨gw,cs,t,fv,fn,fr,fs,ft,rfl,rfl,hW,hmg,by show 0<s.out.length;omega,by show cD s.out ix (s.out.length-0) 0=true;rw[jc];exact hv,?_,hd65,?_⟩
    .show 0<=bi s.out ix d+bi s.out ix d;rw[gC];omega
    .show bi s.out ix d+bi s.out ix d+eo s.out ix d (s.out.length-0) 0<=40000000000;rw[jc,gC];omega
   .have hm:=Own.nd (A:=[_,_,_,_,_]) hm;simpa using hm
  .have es:s.ends c2={s with c:=c2,e:=250,st:=s.st+(bi s.out ix d+bi s.out ix d)}:=by
    rw[Dk.ends,hix,hdd,aQ hv,aP hq]
   rw[es];refine(A5m hkd l.length ((n+mk:Nat):Int) s.out s.m s.p s.q s.out.length .nilIface s.st s.told s.all 0 ((gs,sc)::f::rs) hmm CM hd65 FP s0 s1' hv hq).mono ?_;rintro x w' hx;exact fin 250 (s.st+(bi s.out ix d+bi s.out ix d)) {s with c:=c2,e:=250,st:=s.st+(bi s.out ix d+bi s.out ix d)} rfl FU rfl rfl rfl rfl rfl rfl rfl rfl x w' hx
 .have es:s.ends c2={s with c:=c2,e:=170,st:=s.st+bi s.out ix d}:=by
   rw[Dk.ends,hix,hdd,aP hv]
  rw[es];refine(ZJ hkd l.length ((n+mk:Nat):Int) s.out s.m s.p s.q s.out.length .nilIface s.st s.told s.all 0 ((gs,sc)::f::rs) hmm CM hd65 FP s0 s1' (by simpa using hv)).mono ?_;rintro x w' hx;exact fin 170 (s.st+bi s.out ix d) {s with c:=c2,e:=170,st:=s.st+bi s.out ix d} rfl FU rfl rfl rfl rfl rfl rfl rfl rfl x w' hx
end
section
variable{a:OA}{Q:Exit->aJ}{M N P S e:Int}{l:bt}{ss:O1}{gd id k:Nat}{rs:ae}{t:NY}{w w0:FC}
def NM{P:O8}{S:OE}(hO:Own w0 w rs ss)(hS:∀W,Own w0 W rs ss->S W)(k:Nat)(t:KT)(hm:P.follows .mixedOrders=true)(hs:Region.noSelect l.toArray=true)(hlen:t.depth=l.toArray.size)
  (hB:(!(Array.replicate l.toArray.size false).getD k false&&eL l.toArray k (Qv l.toArray k) (Array.replicate l.toArray.size false) t)=true)(hQ:∀c a d v w,Q (.panic c) (a.put d v) w->Q (.panic c) a w)
  (h:∀w',Own w0 w' rs ss->bX P l.toArray Q t S a w'):(Code.region id l.toArray true).wp P Q a w:=
 Kv k t S hm hs hlen hB hQ (hS _ (hO.drawn _)) (h _ (hO.drawn _))
def mx(gd:Nat):Nat->ar
|0=>[]
|k+1=>.int .u8 ((k+2:Nat):Int)::.func (.func (58+k)) #[.pointer (some ⟨gd,0,none⟩)] #[]::mx gd k
def lR{p:Value×Value}:p∈BN (mx gd k)↔∃j,j<k/\p=(.int .u8 ((j+2:Nat):Int),.func (.func (58+j)) #[.pointer (some ⟨gd,0,none⟩)] #[]):=by
 induction k with
|zero=>
  constructor
  .intro h;cases h
  .rintro⟨_,h,_⟩;omega
|succ k ih=>
  simp only[mx,BN,dh];rw[ih]
  constructor
  .rintro(rfl|⟨j,h,rfl⟩)
   .exact⟨k,FP,rfl⟩
   .exact⟨j,FP,rfl⟩
  .rintro⟨j,h,rfl⟩;by_cases e:j=k
   .subst e;exact .inl rfl
   .exact .inr ⟨j,FP,rfl⟩
def iS(h:k<6):∃l,keyOf prog 5 (.int .u8 ((k+2:Nat):Int))=some l:=sL (by
 have:k=0\/k=1\/k=2\/k=3\/k=4\/k=5:=FP
 rcases this with rfl|rfl|rfl|rfl|rfl|rfl<;>decide)
def jt(hk:k<6):∀p∈BN (mx gd k),∃l,keyOf prog 5 p.1=some l:=λp hp=>by
 obtain⟨j,hj,rfl⟩:=lR.1 hp;exact iS FP
def qt:∀p∈BN (mx gd k),p.1≠.int .u8 ((k+2:Nat):Int):=λp hp e=>by
 obtain⟨j,hj,rfl⟩:=lR.1 hp;simp only[Value.int.injEq,true_and]at e;omega
def qi:∀p∈BN (mx gd 5),p.1=.int .u8 ((k+2:Nat):Int)->p.2=.func (.func (58+k)) #[.pointer (some ⟨gd,0,none⟩)] #[]:=λp hp e=>by
 obtain⟨j,hj,rfl⟩:=lR.1 hp;simp only[Value.int.injEq,true_and]at e;have:j=k:=FP
 subst this;rfl
def KS(I:Nat->ae->Prop)(w0:FC)(ss:O1)(w:FC)(n:Nat):Prop:=∃R,I n R/\Own w0 w R ss
structure pg(I:Nat->ae->Prop)(J:dC->ae->Prop)(gd gr gp:Nat)(w0:FC)(n:Nat)(kd n1 m1 p1 s1:Int)(v:NY)(e1:Int)(bud md:Int)(pa sv:NY)(m p q came:Int)(bv:NY)(st told all:Int)(RR:ae):Prop where
 kind:1<=kd/\kd<=8
 need:kd=1->J .need ((gd,DRw bud md pa (.pointer (some ⟨gr,0,none⟩)) (.pointer (some ⟨gp,0,none⟩)) sv m p q came bv st told all 0)::RR)
 fin:kd=7->J .fin ((gd,DRw bud md pa (.pointer (some ⟨gr,0,none⟩)) (.pointer (some ⟨gp,0,none⟩)) sv m p q came bv st told all 0)::RR)
 bad:kd=8->∃j,j<n/\I j ((gd,DRw bud md pa (.pointer (some ⟨gr,0,none⟩)) (.pointer (some ⟨gp,0,none⟩)) sv m p q came bv st told all e1)::RR)
 act:2<=kd->kd<=6->∀W f ss',Own w0 W (f::(gd,DRw bud md pa (.pointer (some ⟨gr,0,none⟩)) (.pointer (some ⟨gp,0,none⟩)) sv m p q came bv st told all 0)::RR) ss'->ak (56+kd.toNat) #[.pointer (some ⟨gd,0,none⟩),.agg (aw kd n1 m1 p1 s1 v e1)] W λx w'=>∃(er:Int)(bud md:Int)(pa sv:NY)(m p q came:Int)(bv:NY)(st told all:Int)(RR:ae),x=.returned (.int .i64 er)/\Own w0 w' (f::(gd,DRw bud md pa (.pointer (some ⟨gr,0,none⟩)) (.pointer (some ⟨gp,0,none⟩)) sv m p q came bv st told all 0)::RR) ss'/\∃j,j<n/\I j ((gd,DRw bud md pa (.pointer (some ⟨gr,0,none⟩)) (.pointer (some ⟨gp,0,none⟩)) sv m p q came bv st told all er)::RR)
def oT{k:Int}:(aw k N M P S t e)[0]?=some (.int .u8 k):=rfl
def Cr{k:Int}:(aw k N M P S t e)[6]?=some (.int .i64 e):=rfl
def QH(gd gr gp:Nat)(R:ae)(w0 w:FC)(ss:O1)(hm:Own w0 w R ss)(I I2:Nat->ae->Prop)(J:dC->ae->Prop)(n0:Nat)(hI0:I n0 R)(HI:∀n R,I n R->∃(bud md:Int)(pa sv:NY)(m p q came:Int)(bv:NY)(st told all e:Int)(RR:ae),R=(gd,DRw bud md pa (.pointer gr) (.pointer gp) sv m p q came bv st told all e)::RR)(HE:∀n(bud md:Int)(pa sv:NY)(m p q came:Int)(bv:NY)(st told all:Int)(e:Int)(RR:ae),e≠0->I n ((gd,DRw bud md pa (.pointer gr) (.pointer gp) sv m p q came bv st told all e)::RR)->J (.bad e) ((gd,DRw bud md pa (.pointer gr) (.pointer gp) sv m p q came bv st told all e)::RR))(HN:Hid (∀n(bud md:Int)(pa sv:NY)(m p q came:Int)(bv:NY)(st told all:Int)(RR:ae)W ss',I n ((gd,DRw bud md pa (.pointer gr) (.pointer gp) sv m p q came bv st told all 0)::RR)->Own w0 W ((gd,DRw bud md pa (.pointer gr) (.pointer gp) sv m p q came bv st told all 0)::RR) ss'->ak 63 #[.pointer (some ⟨gd,0,none⟩)] W λx w'=>(∃b R2,x=.returned (.tuple #[.int .u8 b,.bool true])/\J (.byte b) R2/\Own w0 w' R2 ss')\/(x=.returned (.tuple #[.int .u8 0,.bool false])/\I2 n ((gd,DRw bud md pa (.pointer gr) (.pointer gp) sv m p q came bv st told all 0)::RR)/\Own w0 w' ((gd,DRw bud md pa (.pointer gr) (.pointer gp) sv m p q came bv st told all 0)::RR) ss')))(HS:Hid (∀n(bud md:Int)(pa sv:NY)(m p q came:Int)(bv:NY)(st told all:Int)(RR:ae)W(A:ae)ss',I2 n ((gd,DRw bud md pa (.pointer gr) (.pointer gp) sv m p q came bv st told all 0)::RR)->Own w0 W (A++((gd,DRw bud md pa (.pointer gr) (.pointer gp) sv m p q came bv st told all 0)::RR)) ss'->ak 38 #[gp,gr] W λx w'=>∃kd n1 m1 p1 s1 v e1 RR2,x=.returned (.agg (aw kd n1 m1 p1 s1 v e1))/\v.oneCell'=true/\pg I J gd gr gp w0 n kd n1 m1 p1 s1 v e1 bud md pa sv m p q came bv st told all RR2/\Own w0 w' (A++((gd,DRw bud md pa (.pointer gr) (.pointer gp) sv m p q came bv st told all 0)::RR2)) ss')):ak 19 #[.pointer (some ⟨gd,0,none⟩)] w λx w'=>∃r R2,x=.returned (dC.val r)/\J r R2/\Own w0 w' R2 ss:=by
 obtain⟨bud,md,pa,sv,m,p,q,came,bv,st,told,all,e,RR,rfl⟩:=HI _ _ hI0;go_enter func19,ntmps19
 go_wp2_with(first
  |refine Ad rfl (BD hm rfl ?_);clear hm;intro w r hm hd;replace hm:Own _ _ _ (IK _ (mx gd 0)::_):=hm
  |refine Ad rfl (Bj (xs:=mx gd 0) (k:=.int .u8 ((0+2:Nat):Int)) (v:=.func (.func (58+0)) #[.pointer (some ⟨gd,0,none⟩)] #[]) hm hd rfl rfl rfl rfl underlying108 il (iS FU) (jt FU) qt ?_);clear hm;intro w hm;replace hm:Own _ _ _ (IK _ (mx gd 1)::_):=hm
  |refine Ad rfl (Bj (xs:=mx gd 1) (k:=.int .u8 ((1+2:Nat):Int)) (v:=.func (.func (58+1)) #[.pointer (some ⟨gd,0,none⟩)] #[]) hm hd rfl rfl rfl rfl underlying108 il (iS FU) (jt FU) qt ?_);clear hm;intro w hm;replace hm:Own _ _ _ (IK _ (mx gd 2)::_):=hm
  |refine Ad rfl (Bj (xs:=mx gd 2) (k:=.int .u8 ((2+2:Nat):Int)) (v:=.func (.func (58+2)) #[.pointer (some ⟨gd,0,none⟩)] #[]) hm hd rfl rfl rfl rfl underlying108 il (iS FU) (jt FU) qt ?_);clear hm;intro w hm;replace hm:Own _ _ _ (IK _ (mx gd 3)::_):=hm
  |refine Ad rfl (Bj (xs:=mx gd 3) (k:=.int .u8 ((3+2:Nat):Int)) (v:=.func (.func (58+3)) #[.pointer (some ⟨gd,0,none⟩)] #[]) hm hd rfl rfl rfl rfl underlying108 il (iS FU) (jt FU) qt ?_);clear hm;intro w hm;replace hm:Own _ _ _ (IK _ (mx gd 4)::_):=hm
  |refine Ad rfl (Bj (xs:=mx gd 4) (k:=.int .u8 ((4+2:Nat):Int)) (v:=.func (.func (58+4)) #[.pointer (some ⟨gd,0,none⟩)] #[]) hm hd rfl rfl rfl rfl underlying108 il (iS FU) (jt FU) qt ?_);clear hm;intro w hm;replace hm:Own _ _ _ (IK _ (mx gd 5)::_):=hm)
 go_loopw[] (λwr=>∃n,KS I w0 (IK r (mx gd 5)::ss) wr n) (λwr=>Po (KS I w0 (IK r (mx gd 5)::ss) wr))
 case atStart=>exact⟨n0,_,hI0,hm⟩
 case round=>
  clear hm hI0;obtain⟨n1,hn1⟩:=hrel;have hn:=YV hn1;clear hn1;obtain⟨R,hI,hm⟩:=hn;obtain⟨bud,md,pa,sv,m,p,q,came,bv,st,told,all,e,RR,rfl⟩:=HI _ _ hI;by_cases he:e=0
  .subst he
   go_upto_region 8 with(first
   |with_reducible refine wl 25 0 hm ?_
   |(go_at_call 63;have _t:=hm;refine(HN.o _ _ _ _ _ _ _ _ _ _ _ _ _ _ _ _ hI hm).mono ?_;clear _t hm;rintro x w1(⟨b,R2,rfl,hJ,hm⟩|⟨rfl,hI2,hm⟩)))
   .refine aD (fO rfl _ _ _) rfl ?_;exact⟨.byte b,_,rfl,hJ,hm.J9⟩
   .skip
    refine NM (S:=λW=>AA W gd (DRw bud md pa (.pointer gr) (.pointer gp) sv m p q came bv st told all 0)) hm (λW h=>h.row 0 rfl) 10 (.am [(0,false),(1,false),(2,false),(3,true),(4,false),(5,false),(6,false),(7,true)] (.two 8 (.one 9 (.brk 10 11 .done)) 9 (.one 8 (.brk 10 11 .done)))) rfl FZ rfl FZ (λ_ _ d _ _ h=>by cases d<;>exact h) ?_;clear hm;intro w hm;simp only[KT.am]
    iterate 3 refine kq ?_
    refine km (λW hm=>Aa rfl rfl hm (ot rfl) rfl) ?_
    iterate 3 refine kq ?_
    refine km (λW hm=>Aa rfl rfl hm (ot rfl) rfl) ?_;refine au ?_ ?_
    focus
     refine DJ rfl rfl (λK hK=>?_);go_simp;refine(HS.o _ _ _ _ _ _ _ _ _ _ _ _ _ _ _ [] _ hI2 hm).mono ?_;rintro e1 w1⟨kd,n3,m4,p4,s4,v,e3,RR3,rfl,hv,hX,hm⟩;have HX:=aa hX;have HV:=aa hv;clear hX hv;simp only[s2]at hm;refine hK _ _ ⟨_,λ_ h=>h,(by exact hm.row 0 rfl),?_⟩;clear hK K;refine Bo rfl rfl (Dl hm rfl BX ?_);clear hm;intro w g8 hm;refine⟨_,λ_ h=>h,KX,?_⟩
     try simp only[Act.put,s3]
     refine Em rfl rfl (Aw 0 hm rfl rfl (Ac rfl) rfl Dw yS (Ak HV.o) ?_)
     clear hm;intro w hm
     try simp only[puts,s2,List.set,List.eraseIdx,s3]at hm
     refine⟨λW=>Own _ W _ _,hm,?_⟩
     try simp only[Act.put,s3]
     refine Ba ?_;go_simp
    rotate_left
    focus
     refine Bo rfl rfl (Dl hm rfl BX ?_);clear hm;intro w g8 hm;refine⟨_,λ_ h=>h,KX,?_⟩
     try simp only[Act.put,s3]
     refine DJ rfl rfl (λK hK=>?_);go_simp;refine(HS.o _ _ _ _ _ _ _ _ _ _ _ _ _ _ _ [_] _ hI2 hm).mono ?_;rintro e1 w1⟨kd,n3,m4,p4,s4,v,e3,RR3,rfl,hv,hX,hm⟩;have HX:=aa hX;have HV:=aa hv;clear hX hv;simp only[s2]at hm;refine hK _ _ ⟨_,λ_ h=>h,KX,?_⟩;clear hK K
     refine Em rfl rfl (Aw 0 hm rfl rfl (Ac rfl) rfl Dw yS (Ak HV.o) ?_)
     clear hm;intro w hm
     try simp only[puts,s2,List.set,List.eraseIdx,s3]at hm
     refine⟨λW=>Own _ W _ _,hm,?_⟩
     try simp only[Act.put,s3]
     refine Ba ?_;go_simp
    all_goals
     have hkd:=HX.o.kind;have hkk:kd=1\/kd=7\/kd=8\/kd=2\/kd=3\/kd=4\/kd=5\/kd=6:=FP
     clear hkd;rcases hkk with rfl|rfl|rfl|rfl|rfl|rfl|rfl|rfl
     .go_wp2_with(with_reducible refine wl 5 0 hm ?_ (hv:=al oT))
      refine aD (fO rfl _ _ _) rfl ?_;exact⟨.need,_,rfl,HX.o.need rfl,hm.dropRow.J9⟩
     .go_wp2_with(with_reducible refine wl 5 0 hm ?_ (hv:=al oT))
      refine aD (fO rfl _ _ _) rfl ?_;exact⟨.fin,_,rfl,HX.o.fin rfl,hm.dropRow.J9⟩
     .obtain⟨j,hjn,hIj⟩:=HX.o.bad rfl;have HJN:=aa hjn;have HIJ:=aa hIj;clear hjn hIj
      go_wp2_with(first
      |(with_reducible first|refine wl 5 0 hm ?_ (hv:=al oT)|refine wl 25 0 hm ?_ (hv:=al Cr))
      |with_reducible refine bE (t:=25) ?_;((refine Ad rfl (AZ 1 hm rfl rfl (Ac rfl) rfl (ot rfl) G5 rfl rfl rfl ?_)));clear hm;intro w hm;try simp only[puts,s2,List.set,List.eraseIdx,s3]at hm)
      have hjn:=HJN.o;have hIj:=HIJ.o;exact NF
     all_goals
      go_wp2_with(first
      |(with_reducible first|refine wl 5 0 hm ?_ (hv:=al oT)|refine aM 76 0 hm ?_)
      |with_reducible refine gk ?_;(first|refine A8 rfl (Ez (k:=.int .u8 ((0+2:Nat):Int)) (v:=.func (.func (58+0)) #[.pointer (some ⟨gd,0,none⟩)] #[]) 0 hm rfl rfl rfl rfl underlying108 il (iS FU) (jt FU) ⟨_,lR.2 ⟨0,FU,rfl⟩,rfl⟩ (qi (k:=0))) ?_|refine A8 rfl (Ez (k:=.int .u8 ((1+2:Nat):Int)) (v:=.func (.func (58+1)) #[.pointer (some ⟨gd,0,none⟩)] #[]) 0 hm rfl rfl rfl rfl underlying108 il (iS FU) (jt FU) ⟨_,lR.2 ⟨1,FU,rfl⟩,rfl⟩ (qi (k:=1))) ?_|refine A8 rfl (Ez (k:=.int .u8 ((2+2:Nat):Int)) (v:=.func (.func (58+2)) #[.pointer (some ⟨gd,0,none⟩)] #[]) 0 hm rfl rfl rfl rfl underlying108 il (iS FU) (jt FU) ⟨_,lR.2 ⟨2,FU,rfl⟩,rfl⟩ (qi (k:=2))) ?_|refine A8 rfl (Ez (k:=.int .u8 ((3+2:Nat):Int)) (v:=.func (.func (58+3)) #[.pointer (some ⟨gd,0,none⟩)] #[]) 0 hm rfl rfl rfl rfl underlying108 il (iS FU) (jt FU) ⟨_,lR.2 ⟨3,FU,rfl⟩,rfl⟩ (qi (k:=3))) ?_|refine A8 rfl (Ez (k:=.int .u8 ((4+2:Nat):Int)) (v:=.func (.func (58+4)) #[.pointer (some ⟨gd,0,none⟩)] #[]) 0 hm rfl rfl rfl rfl underlying108 il (iS FU) (jt FU) ⟨_,lR.2 ⟨4,FU,rfl⟩,rfl⟩ (qi (k:=4))) ?_)
      |((first|go_at_call 58|go_at_call 59|go_at_call 60|go_at_call 61|go_at_call 62);have _t:=hm;refine(HX.o.act FU FU _ _ _ hm).mono ?_;clear _t hm;rintro x w1⟨er,bud2,md2,pa2,sv2,m2,p2,q2,came2,bv2,st2,told2,all2,RR2,rfl,hm,hj⟩)
      |with_reducible refine bE (t:=25) ?_;((refine Ad rfl (AZ 1 hm rfl rfl (Ac rfl) rfl (ot rfl) G5 rfl rfl rfl ?_)));clear hm;intro w hm;try simp only[puts,s2,List.set,List.eraseIdx,s3]at hm)
      obtain⟨j,hjn,hIj⟩:=hj;exact NF
  .have q1:(e==0)=false:=by simpa using he
   go_upto_region 17 with(with_reducible refine wl 25 0 hm ?_)
   refine rO hm 7 (.am [(0,false),(1,false),(2,false),(3,true),(4,false),(5,false),(6,false)] .done) ?_;clear hm;intro w hm;simp only[KT.am]
   iterate 3 refine kq ?_
   refine km (λW hm=>ld 0 hm rfl rfl rfl (ot rfl) rfl) ?_
   iterate 3 refine kq ?_
   refine Ba ?_;go_simp;go_wp2;refine aD (fO rfl _ _ _) rfl ?_;exact⟨.bad e,_,rfl,HE _ _ _ _ _ _ _ _ _ _ _ _ _ _ _ he hI,hm.J9⟩
end
section
variable{en:Bool}{c2:Cf}{N all' bud bud' came came' e e' m m' md md' p p' q q' st' told':Int}{col:ac}{gd gr:Nat}{A D P Z rs:ae}{bv bv' pa pa' pp pp' pr pr' sv sv':NY}
def DI.ev{en:Bool}{s:Dk}{c2:Cf}{ev:ba}(h:DI s)(he:s.e=0)(hN:cJ en s.c ev c2):∃N,(∀N' mo,s.hd=some (N',mo)->N'=N)/\(s.hd=none->s.c.s.ph=0)/\(∀N' mo,s.hd=some (N',mo)->s.c.s.ph≠0)/\o6 s.c.s.ph s.c.ro c2 N s.m s.p s.q s.out.length ev:=by
 have hh:=h.hd he;cases hd:s.hd with
|none=>
  rw[hd]at hh;exact⟨0,λ_ _ h=>G6,λ_=>hh.1,λ_ _ h=>G6,hN.ei (hh.2 0 s.m s.p s.q s.out.length)⟩
|some o=>
  obtain⟨N,mo⟩:=o;rw[hd]at hh;exact⟨N,λ_ _ h=>(by cases h;rfl),λh=>G6,λ_ _ _=>hh.1,hN.ei hh.2⟩
def DI.j3{s:Dk}(h0:s.hd=none->s.c.s.ph=0)(hN:∀N' mo,s.hd=some (N',mo)->N'=N)(hp:s.c.s.ph≠0):∃mo,s.hd=some (N,mo):=by
 cases hd:s.hd with
|none=>exact absurd (h0 hd) hp
|some o=>
  obtain⟨N',mo⟩:=o;have:=hN N' mo hd;subst this;exact⟨mo,rfl⟩
def DI.pL{s:Dk}(h1:∀N' mo,s.hd=some (N',mo)->s.c.s.ph≠0)(hp:s.c.s.ph=0):s.hd=none:=by
 cases hd:s.hd with
|none=>rfl
|some o=>exact absurd hp (h1 o.1 o.2 hd)
def DI.bad{s:Dk}(h:s.e≠0):DI s:=⟨λh'=>absurd h' h,λh'=>absurd h' h⟩
def yz(s:Dk):s.d<=65536:=by
 rw[Dk.d];split
 .rw[Pol.dist];split
  .decide
  .split<;>decide
 .decide
def To{ix d:Nat}(h1:1<=col.length)(h2:col.length<=65536)(hd:d<=65536)(hv:cD col ix col.length 0=true):qr ⟨col,ix,d,0,0,bi col ix d+bi col ix d⟩:=by
 have hb:=fm (col:=col) (ix:=ix) hd col.length 0;refine⟨h1,h2,?_,hd,hv,?_⟩
 .show 0<=bi col ix d+bi col ix d;rw[gC];omega
 .show bi col ix d+bi col ix d+eo col ix d col.length 0<=40000000000;rw[gC];omega
def DI.act{bud:Int}{en:Bool}{s:Dk}{c2:Cf}{ev:ba}(h:DI s)(he:s.e=0)(hk:s.bk=none)(hN:cJ en s.c ev c2)(ha:ev.act=true)(hb:∀e,ev=.bad e->e≠0):DI (s.act bud c2 ev):=by
 obtain⟨N,h1,h2,h3,hev⟩:=h.ev he hN;cases ev with
|head n=>
  rw[Dk.act];split
  .exact⟨λ_=>⟨by show c2.s.ph≠0;rw[hev.2.1];decide,hev.2.2.2.2.2 _ _ _ _⟩,λ_ w hw=>by simp only[hk]at hw;cases hw⟩
  .rename_i hne;exact DI.bad hne
|block k a b=>
  obtain⟨mo,hd⟩:=DI.j3 h2 h1 Gw;refine⟨λ_=>?_,λ_ w hw=>by simp only[Dk.act,hk]at hw;cases hw⟩;simp only[Dk.act,hd];exact⟨by rw[hev.2.1];decide,hev.2.2.2.1⟩
|bytes t=>
  obtain⟨mo,hd⟩:=DI.j3 h2 h1 Gw;refine⟨λ_=>?_,λ_ w hw=>by simp only[Dk.act,hk]at hw;cases hw⟩;simp only[Dk.act,hd];refine⟨by rw[hev.2.1];decide,?_⟩;have:=hev.2.2.2.2.2.2;rw[aV];push_cast;exact this
|U5 k a b=>
  obtain⟨mo,hd⟩:=DI.j3 h2 h1 Gw;obtain⟨_,e2,_,hg,⟨_,n1,n2,_,_,_,m1,m2,p1,p2,_⟩,hE⟩:=hev;simp only[Dk.act];rw[Dk.ends];split
  .split
   .refine⟨λ_=>?_,λ_ w hw=>?_⟩
    .simp only[hd];exact⟨by rw[e2];decide,hE⟩
    .cases hw;exact⟨hg,To FP FP (yz s) Gq,e2⟩
   .exact DI.bad (show(250:Int)≠0 by decide)
  .exact DI.bad (show(170:Int)≠0 by decide)
|tail q=>
  obtain⟨mo,hd⟩:=DI.j3 h2 h1 Gw;rw[Dk.act];split
  .refine⟨λ_=>?_,λ_ w hw=>by simp only[hk]at hw;cases hw⟩;simp only[hd];exact⟨by rw[hev.2.1];decide,hev.2.2.2.2.2⟩
  .exact DI.bad (show(260:Int)≠0 by decide)
|bad e=>exact DI.bad (hb e rfl)
|fin=>cases ha
|need=>cases ha
def DI.need{s:Dk}(h:DI s)(he:s.e=0)(hk:s.bk=none)(hN:cJ en s.c .need c2):DI {s with c:=c2}:=by
 have hh:=h.hd he;refine⟨λ_=>?_,λ_ w hw=>by simp only[hk]at hw;cases hw⟩;cases hd:s.hd with
|none=>
  rw[hd]at hh;simp only[hd];exact⟨by have:=hN.ei (hh.2 0 0 0 0 0);rw[this.1];exact hh.1,λN m p q g=>(hN.ei (hh.2 N m p q g)).2.2⟩
|some o=>
  rw[hd]at hh;simp only[hd];exact⟨by have:=hN.ei hh.2;rw[this.1];exact hh.1,(hN.ei hh.2).2.2⟩
def DI.fin{s:Dk}(h:DI s)(he:s.e=0)(hk:s.bk=none)(hN:cJ en s.c .fin c2):DI {s with c:=c2}:=by
 obtain⟨N,h1,h2,h3,hev⟩:=h.ev he hN;obtain⟨mo,hd⟩:=DI.j3 h2 h1 Gw;refine⟨λ_=>?_,λ_ w hw=>by simp only[hk]at hw;cases hw⟩;simp only[hd];exact⟨by rw[hev.2.1];decide,hev.2.2.2⟩
def DI.tell{s:Dk}{w:Wk}(h:DI s)(he:s.e=0)(hw:s.bk=some w):DI (s.tell w):=by
 have hh:=h.hd he;obtain⟨b1,b2,b3⟩:=h.bk he w hw;rw[Dk.tell];split
 .exact⟨λ_=>hh,λ_ w' hw'=>by cases hw'⟩
 .rename_i hne;refine⟨λ_=>hh,λ_ w' hw'=>?_⟩;cases hw';have hk:=b2.k;exact⟨b1,b2.step.2.2.2 FP,b3⟩
def Iv(gp gr F:Nat)(en:Bool)(c:Cf)(P:ae):Prop:=∀rs,Rel gp gr F en rs c (P++rs)
def j0(s:Dk):Nat:=if s.e=0 then s.c.mu+1 else 0
def cN(bud gd gr gp F:Nat)(en:Bool)(rs:ae)(s:Dk)(R:ae):Prop:=∃D P,R=D++(P++rs)/\Iv gp gr F en s.c P/\da bud gd gr gp s s.e D/\DI s
def On{st told all:Int}(e x:Int):DRw bud md pa pr pp sv m p q came bv st told all x=(DRw bud md pa pr pp sv m p q came bv st told all e).setIfInBounds 14 (.int .i64 x):=rfl
def I0{st told all:Int}(h:DRw bud md pa pr pp sv m p q came bv st told all e=DRw bud' md' pa' pr' pp' sv' m' p' q' came' bv' st' told' all' e'):e=e'/\∀x,DRw bud md pa pr pp sv m p q came bv st told all x=DRw bud' md' pa' pr' pp' sv' m' p' q' came' bv' st' told' all' x:=by
 refine⟨?_,λx=>?_⟩
 .have:=congrArg (λa:ai=>a[14]?) h;simpa[DRw]using this
 .rw[On e x,h,<-On]
def da.K0{bud gp:Nat}{s:Dk}{ec:Int}(h:da bud gd gr gp s ec D):∃(md:Int)(pa sv:NY)(bv:NY)(RR:ae),D=(gd,DRw bud md pa (.pointer gr) (.pointer gp) sv s.m s.p s.q s.out.length bv s.st s.told s.all ec)::RR/\∀x,da bud gd gr gp s x ((gd,DRw bud md pa (.pointer gr) (.pointer gp) sv s.m s.p s.q s.out.length bv s.st s.told s.all x)::RR):=by
 obtain⟨ga,gx,n,mk,l,md,live,peak,sv,bv,S,X,h1,h2,h3,h4,h5,rfl,h6⟩:=h;exact⟨_,_,_,_,_,rfl,λx=>⟨ga,gx,n,mk,l,md,live,peak,sv,bv,S,X,h1,h2,h3,h4,h5,rfl,h6⟩⟩
def da.keep{bud gp:Nat}{s s2:Dk}{ec:Int}(h:da bud gd gr gp s ec D)(hm:s2.m=s.m)(hp:s2.p=s.p)(hq:s2.q=s.q)(ho:s2.out=s.out)(hst:s2.st=s.st)(ht:s2.told=s.told)(ha:s2.all=s.all)(hh:s2.hd=s.hd)(hb:s2.bk=s.bk)(he:s2.e=0->s.e=0):da bud gd gr gp s2 ec D:=by
 obtain⟨ga,gx,n,mk,l,md,live,peak,sv,bv,S,X,h1,h2,h3,h4,h5,rfl,h6⟩:=h;refine⟨ga,gx,n,mk,l,md,live,peak,sv,bv,S,X,h1,h2,h3,h4,h5,by rw[hm,hp,hq,ho,hst,ht,ha],⟨by rw[Dk.dp,hh];exact h6.1.1,λh=>h6.1.2 (hb▸h)⟩,λh0=>?_⟩;obtain⟨a,b⟩:=h6.2 (he h0);exact⟨by rw[fa,hh,ho];exact a,by rw[fw,hb,hm];exact b⟩
def da.eZ{bud gp:Nat}{s:Dk}(h:da bud gd gr gp s 0 D){s0:Dk}(he:s0.e=0)(hs:s.e=s0.e:=by rfl):da bud gd gr gp s s.e D:=by
 rw[hs,he];exact h
def I3{s:Dk}{ev:ba}:(s.act bud c2 ev).c=c2:=by
 cases ev with
|head n=>rw[Dk.act];split<;>rfl
|tail q=>rw[Dk.act];split<;>rfl
|U5 k a b=>
  simp only[Dk.act];rw[Dk.ends];split
  .split<;>rfl
  .rfl
|block k a b=>rfl
|bytes t=>rfl
|bad e=>rfl
|fin=>rfl
|need=>rfl
def Re{X:ae}(_:Z=Z):(P++(A++(D++rs))).Perm (A++(D++(P++rs))):=by
 have h:∀(U V W:ae),(U++(V++W)).Perm (V++(U++W)):=λU V W=>by
  exact xe
 exact(h P A _).trans ((h P D rs).append_left A)
def Qe{X:ae}:(A++(D++(X++(P++rs)))).Perm (X++(P++(A++(D++rs)))):=by
 have h:∀(U V W:ae),(U++(V++W)).Perm (V++(U++W)):=λU V W=>by
  exact xe
 have h1:(A++(D++(X++(P++rs)))).Perm (X++(A++(D++(P++rs)))):=((h D X _).append_left A).trans (h A X _);have h2:(A++(D++(P++rs))).Perm (P++(A++(D++rs))):=((h D P _).append_left A).trans (h A P _);exact h1.trans (h2.append_left X)
end
section
variable{all' bu' came came' e e1 kd m m' m1 md md' md0 n1 p p' p1 q q' s1' st' told':Int}{ss:O1}{n:Nat}{P R RR RR0:ae}{bv bv' bv0 pa pa' pa0 pp pr sv sv' sv0:NY}{w:FC}
section
variable{bud gd gr gp F:Nat}{en:Bool}{s s1:Dk}{c2:Cf}{w0:FC}{rs:ae}
def NI(bud gd gr gp F:Nat)(en:Bool)(rs:ae)(s s1:Dk)(R:ae):Prop:=cN bud gd gr gp F en rs s1 R/\(∀r s2,DN bud en s1 r s2->DN bud en s r s2)/\s1.told=s.told/\(s1.e=0->s1.st=s.st)
def cN.row{R:ae}(h:cN bud gd gr gp F en rs s R):∃(bud md:Int)(pa sv:NY)(m p q came:Int)(bv:NY)(st told all e:Int)(RR:ae),R=(gd,DRw bud md pa (.pointer gr) (.pointer gp) sv m p q came bv st told all e)::RR:=by
 obtain⟨D,P,rfl,_,hD,_⟩:=h;obtain⟨md,pa,sv,bv,RR,rfl⟩:=hD.row;exact⟨_,_,_,_,_,_,_,_,_,_,_,_,_,_,rfl⟩
def cN.Fx{bu:Int}{st told all:Int}(h:cN bud gd gr gp F en rs s ((gd,DRw bu md pa pr pp sv m p q came bv st told all e)::RR)):e=s.e:=by
 obtain⟨D,P,hR,_,hD,_⟩:=h;obtain⟨md',pa',sv',bv',RR',rfl⟩:=hD.row;simp only[eG,qE,oz,true_and]at hR;exact(I0 hR.1).1
def a1j{X:ae}{v:NY}{ev:ba}(b1:1<=bud)(b2:bud<=1048576)(hs0:0<=s.st)(hs1:s.st<=1000000000000000000)(hP:Iv gp gr F en c2 P)(hD:da bud gd gr gp s1 0 ((gd,DRw bud md0 pa0 (.pointer gr) (.pointer gp) sv0 s1.m s1.p s1.q s1.out.length bv0 s1.st s1.told s1.all 0)::RR0))(hDset:∀x,da bud gd gr gp s1 x ((gd,DRw bud md0 pa0 (.pointer gr) (.pointer gp) sv0 s1.m s1.p s1.q s1.out.length bv0 s1.st s1.told s1.all x)::RR0))(hI:DI s1)(he:s1.e=0)(hk:s1.bk=none)(hN:cJ en s1.c ev c2)(hE:yR X ev kd n1 m1 p1 s1' v e1)(hdn:∀r s2,DN bud en s1 r s2->DN bud en s r s2)(ht:s1.told=s.told)(hst:s1.st=s.st):
  pg (λn R=>∃s',NI bud gd gr gp F en rs s s' R/\n=j0 s') (λr R=>∃s2,cN bud gd gr gp F en rs s2 R/\DN bud en s r s2) gd gr gp w0 (j0 s1) kd n1 m1 p1 s1' v e1 bud md0 pa0 sv0 s1.m s1.p s1.q s1.out.length bv0 s1.st s1.told s1.all (RR0++(X++(P++rs))):=by
 have hmeas:j0 s1=s1.c.mu+1:=aQ he
 have hlt:∀s2:Dk,s2.c=c2->ev.last=false\/s2.e≠0->j0 s2<j0 s1:=λs2 h1 h2=>by
  rw[hmeas,j0];split
  .rename_i h0;rcases h2 with h2|h2
   .have:=hN.mu h2;rw[h1];omega
   .exact absurd h0 h2
  .omega
 have hkd:1<=kd/\kd<=8:=by cases ev<;>obtain⟨rfl,_⟩:=hE<;>omega
 refine⟨hkd,?_,?_,?_,?_⟩
 .intro h
  obtain⟨rfl,hX⟩:ev=.need/\X=[]:=by
   exact E3
  subst hX;exact⟨{s1 with c:=c2},⟨_,P,rfl,hP,(hD.keep rfl rfl rfl rfl rfl rfl rfl rfl rfl id).eZ he,hI.need he hk hN⟩,hdn _ _ (.need he hk hN)⟩
 .intro h
  obtain⟨rfl,hX⟩:ev=.fin/\X=[]:=by
   exact E3
  subst hX;exact⟨{s1 with c:=c2},⟨_,P,rfl,hP,(hD.keep rfl rfl rfl rfl rfl rfl rfl rfl rfl id).eZ he,hI.fin he hk hN⟩,hdn _ _ (.fin he hk hN)⟩
 .intro h
  obtain⟨rfl,h0,hX⟩:ev=.bad e1/\e1≠0/\X=[]:=by
   cases ev<;>obtain⟨h1,h2⟩:=hE<;>first|(obtain⟨rfl,h3,h4⟩:=h2;exact⟨rfl,h3,h4⟩)|omega
  subst hX;exact⟨_,hlt {s1 with c:=c2,e:=e1} rfl (.inr h0),{s1 with c:=c2,e:=e1},⟨⟨_,P,rfl,hP,(hDset e1).keep rfl rfl rfl rfl rfl rfl rfl rfl rfl (λh=>absurd h h0),DI.bad h0⟩,λr s2 h=>hdn _ _ (.act he hk hN rfl (λe h=>by cases h;exact h0) h),ht,λh=>absurd h h0⟩,rfl⟩
 .intro ha hb W f ss' hm;have hact:ev.act=true:=by cases ev<;>obtain⟨rfl,_⟩:=hE<;>first|rfl|omega
  have hnl:ev.last=false:=by cases ev<;>obtain⟨rfl,_⟩:=hE<;>first|rfl|omega
  have hnb:∀e,ev=.bad e->e≠0:=λe h=>by subst h;obtain⟨rfl,_⟩:=hE;omega
  obtain⟨N,q1,q2,q3,hev⟩:=hI.ev he hN
  have fin:∀(fn:Nat)(s2:Dk),s2=s1.act bud c2 ev->(s2.e=0->s2.st=s.st)->s2.told=s.told->ak fn #[gd,.agg (aw kd n1 m1 p1 s1' v e1)] W (λx w'=>∃D2,x=.returned (.int .i64 s2.e)/\da bud gd gr gp s2 0 D2/\Own w0 w' (f::(D2++(X++(P++rs)))) ss')->ak fn #[gd,.agg (aw kd n1 m1 p1 s1' v e1)] W λx w'=>∃(er:Int)(bud' md:Int)(pa sv:NY)(m p q came:Int)(bv:NY)(st told all:Int)(RR:ae),x=.returned (.int .i64 er)/\Own w0 w' (f::(gd,DRw bud' md pa (.pointer gr) (.pointer gp) sv m p q came bv st told all 0)::RR) ss'/\∃j,j<j0 s1/\∃s',NI bud gd gr gp F en rs s s' ((gd,DRw bud' md pa (.pointer gr) (.pointer gp) sv m p q came bv st told all er)::RR)/\j=j0 s':=by
   intro fn s2 hs2 hst2 ht2 hC;refine hC.mono ?_;rintro x w'⟨D2,rfl,hD2,hm2⟩;obtain⟨md,pa,sv,bv,RR,rfl,hset⟩:=hD2.K0;have hm3:=hm2.sub (rs':=f::((gd,DRw bud md pa (.pointer gr) (.pointer gp) sv s2.m s2.p s2.q s2.out.length bv s2.st s2.told s2.all 0)::(RR++(P++rs)))) (jw _ (jw _ ((bG X _).append_left RR))) (aY _);refine⟨_,_,_,_,_,_,_,_,_,_,_,_,_,_,rfl,hm3,_,hlt s2 (by rw[hs2];exact I3) (.inl hnl),s2,⟨⟨_,P,rfl,by rw[show s2.c=c2 by rw[hs2];exact I3];exact hP,hset s2.e,by rw[hs2];exact hI.act he hk hN hact hnb⟩,λr s3 h=>hdn _ _ (.act he hk hN hact hnb (by rw[<-hs2];exact h)),ht2,hst2⟩,rfl⟩
  cases ev with
 |head n=>
   obtain⟨rfl,rfl,hX⟩:=hE;subst hX;have hd:=DI.pL q3 hev.1;obtain⟨n',hn'⟩:∃n':Nat,n1=n':=⟨n1.toNat,by have:=hev.2.2.2.1;omega⟩;subst hn';have hn1:=hev.2.2.2.1;have hn2:=hev.2.2.2.2.1;by_cases hp:(Pol.pk bud n' 2).2=0
   .refine fin 58 {s1 with c:=c2,hd:=some ((n':Int),(Pol.pk bud n' 2).1)} (by rw[Dk.act,aQ hp]) (λ_=>hst) ht ?_;refine(Xh (c2:=c2) hD he hk hd FP FP b1 b2 hp hm).mono ?_;rintro x w'⟨D2,rfl,hD2,hm2⟩;exact⟨D2,by rw[show({s1 with c:=c2,hd:=some ((n':Int),(Pol.pk bud n' 2).1)}:Dk).e=s1.e from rfl,he],hD2,hm2⟩
   .refine fin 58 {s1 with c:=c2,e:=(Pol.pk bud n' 2).2} (by rw[Dk.act,aP hp]) (λh=>absurd h hp) ht ?_;refine(A4N hD hp he hm).mono ?_;rintro x w'⟨rfl,hm2⟩;exact⟨_,rfl,hD.keep rfl rfl rfl rfl rfl rfl rfl rfl rfl (λh=>absurd h hp),hm2⟩
 |block k a b=>
   obtain⟨rfl,rfl,rfl,rfl,hX⟩:=hE;subst hX;refine fin 59 {s1 with c:=c2,m:=m1,p:=p1,q:=s1',out:=[]} rfl (λ_=>hst) ht ?_;refine(A6t (c2:=c2) hD he hk hm).mono ?_;rintro x w'⟨D2,rfl,hD2,hm2⟩;exact⟨D2,by rw[show({s1 with c:=c2,m:=m1,p:=p1,q:=s1',out:=[]}:Dk).e=s1.e from rfl,he],hD2,hm2⟩
 |bytes T=>
   obtain⟨rfl,hT0,hX⟩:=hE;obtain⟨mo,hd⟩:=DI.j3 q2 q1 Gw;refine fin 60 {s1 with c:=c2,out:=s1.out++T} rfl (λ_=>hst) ht ?_;refine(Vm (c2:=c2) hD he hk hd hT0 hev.2.2.2.2.2.1 (by have:=hev.2.2.2.1;have:=hev.2.2.2.2.1;omega) hX b2 hm).mono ?_;rintro x w'⟨D2,rfl,hD2,hm2⟩;exact⟨D2,by rw[show({s1 with c:=c2,out:=s1.out++T}:Dk).e=s1.e from rfl,he],hD2,hm2⟩
 |U5 k a b=>
   obtain⟨rfl,hX⟩:=hE;subst hX;obtain⟨mo,hd⟩:=DI.j3 q2 q1 Gw;obtain⟨_,_,_,hg,⟨_,z1,z2,_,_,_,y1,y2,x1,x2,_⟩,_⟩:=hev;refine fin 61 (s1.ends c2) rfl (λh=>?_) ?_ (A6Q (c2:=c2) hD he hk hd FP FP x1 x2 FP b2 FP FP hm)
   .revert h;rw[Dk.ends];split
    .split
     .exact λ_=>hst
     .exact λh=>absurd h (show¬(250:Int)=0 by decide)
    .exact λh=>absurd h (show¬(170:Int)=0 by decide)
   .rw[Dk.ends];split
    .split
     .exact ht
     .exact ht
    .exact ht
 |tail q=>
   obtain⟨rfl,rfl,hX⟩:=hE;subst hX;by_cases hq:s1'=s1.all
   .refine fin 62 {s1 with c:=c2} (by rw[Dk.act,aQ hq]) (λ_=>hst) ht ?_;refine(Mm hD hm).mono ?_;rintro x w'⟨rfl,hm2⟩;exact⟨_,by rw[aQ hq,show({s1 with c:=c2}:Dk).e=s1.e from rfl,he],hD.keep rfl rfl rfl rfl rfl rfl rfl rfl rfl id,hm2⟩
   .refine fin 62 {s1 with c:=c2,e:=260} (by rw[Dk.act,aP hq]) (λh=>absurd h (show¬(260:Int)=0 by decide)) ht ?_;refine(Mm hD hm).mono ?_;rintro x w'⟨rfl,hm2⟩;exact⟨_,by rw[aP hq],hD.keep rfl rfl rfl rfl rfl rfl rfl rfl rfl (λh=>absurd h (show¬(260:Int)=0 by decide)),hm2⟩
 |bad e=>cases hnl
 |fin=>cases hact
 |need=>cases hact
def pg.congr{I:Nat->ae->Prop}{J:dC->ae->Prop}{s1:Int}{v:NY}{bu:Int}{st told all:Int}(h:pg I J gd gr gp w0 n kd n1 m1 p1 s1 v e1 bu' md' pa' sv' m' p' q' came' bv' st' told' all' RR)(he:∀x,DRw bu md pa (.pointer gr) (.pointer gp) sv m p q came bv st told all x=DRw bu' md' pa' (.pointer gr) (.pointer gp) sv' m' p' q' came' bv' st' told' all' x):pg I J gd gr gp w0 n kd n1 m1 p1 s1 v e1 bu md pa sv m p q came bv st told all RR:=
 ⟨h.kind,by rw[he];exact h.need,by rw[he];exact h.fin,by rw[he];exact h.bad,by rw[he];exact h.act⟩
def Ws(b1:1<=bud)(b2:bud<=1048576)(h:cN bud gd gr gp F en rs s R)(hm:Own w0 w R ss)(t0:0<=s.told)(t1:s.told<=1000000000000)(hs0:0<=s.st)(hs1:s.st<=1000000000000000000):ak 19 #[gd] w λx w'=>∃r s2 R2,x=.returned (dC.val r)/\DN bud en s r s2/\cN bud gd gr gp F en rs s2 R2/\Own w0 w' R2 ss:=by
 refine(QH gd gr gp R w0 w ss hm (λn R=>∃s',NI bud gd gr gp F en rs s s' R/\n=j0 s') (λn R=>∃s',NI bud gd gr gp F en rs s s' R/\n=j0 s'/\s'.e=0/\s'.bk=none) (λr R=>∃s2,cN bud gd gr gp F en rs s2 R/\DN bud en s r s2) (j0 s) ⟨s,⟨h,λ_ _ h=>h,rfl,λ_=>rfl⟩,rfl⟩ ?_ ?_ (aa ?_) (aa ?_)).mono ?_
 .rintro n R⟨s',⟨h,_⟩,_⟩;exact h.row
 .rintro n bu md pa sv m p q came bv st told all e RR he⟨s',⟨h,hdn,_⟩,_⟩;have:=h.Fx;subst this;exact⟨s',h,hdn _ _ (.err he)⟩
 .rintro n bu md pa sv m p q came bv st told all RR W ss'⟨s',⟨h,hdn,ht,hst⟩,hn⟩hm;have he:=h.Fx.symm;have h0:=h;obtain⟨D,P,hR,hP,hD,hI⟩:=h;rw[hR]at hm;rw[he]at hD;have hst:=hst he;refine(Vr hD he hm FP FP FP FP).mono ?_;rintro x w'(⟨wk,D2,hbk,rfl,hD2,hm2⟩|⟨hbk,rfl,rfl⟩)
  .refine .inl ⟨_,_,rfl,⟨s'.tell wk,⟨D2,P,rfl,?_,?_,hI.tell he hbk⟩,hdn _ _ (.byte he hbk)⟩,hm2⟩
   .rw[show(s'.tell wk).c=s'.c by rw[Dk.tell];split<;>rfl];exact hP
   .rw[show(s'.tell wk).e=0 by rw[Dk.tell];split<;>exact he];exact hD2
  .exact .inr ⟨rfl,⟨s',⟨h0,hdn,ht,λ_=>hst⟩,hn,he,hbk⟩,by rw[hR];exact hm⟩
 .rintro n bu md pa sv m p q came bv st told all RR W A ss'⟨s',⟨⟨D,P,hR,hP,hD,hI⟩,hdn,ht,hst⟩,hn,he,hbk⟩hm;rw[he]at hD;obtain⟨md0,pa0,sv0,bv0,RR0,rfl,hDset⟩:=hD.K0;simp only[eG,qE,oz,true_and]at hR;have hx:=(I0 hR.1).2;rw[hR.1,hR.2]at hm;have hm2:Own w0 W (P++(A++(((gd,DRw bud md0 pa0 (.pointer gr) (.pointer gp) sv0 s'.m s'.p s'.q s'.out.length bv0 s'.st s'.told s'.all 0)::RR0)++rs))) ss':=hm.perm (Re (Z:=[]) (X:=[]) rfl);refine(a1M (hP _) hm2).mono ?_;rintro x w'⟨kd,n1,m1,p1,s1',v,e1,ev,c2,X,R',rfl,hv,hN,hE,hRel,hm3⟩;obtain⟨P2,rfl,hP2⟩:=hRel.split;have hm4:=hm3.perm (Qe (A:=A) (P:=P2) (rs:=rs) (X:=X) (D:=(gd,DRw bud md0 pa0 (.pointer gr) (.pointer gp) sv0 s'.m s'.p s'.q s'.out.length bv0 s'.st s'.told s'.all 0)::RR0))
  refine⟨kd,n1,m1,p1,s1',v,e1,RR0++(X++(P2++rs)),rfl,hv,?_,by rw[hR.1];exact hm4⟩;rw[hn];exact(a1j b1 b2 hs0 hs1 hP2 hD hDset hI he hbk hN hE hdn ht (hst he)).congr hx
 .rintro x w'⟨r,R2,rfl,⟨s2,h2,hdn⟩,hm2⟩;exact⟨r,s2,R2,rfl,hdn,h2,hm2⟩
end
end
section
variable{en:Bool}{c c2:Cf}{N bud g m p q:Int}{col l:ac}{F:Nat}
def Dk.be(s:Dk):Nat:=(match s.bk with
|none=>0
|some w=>w.col.length-w.k)+65536*s.c.ro
def Dk.fu(s:Dk):Nat:=(match s.bk with
|none=>0
|some _=>1)+s.c.ro
def dC.xF:dC->Bool
|.byte _=>true
|_=>false
structure Cnt(en:Bool)(s:Dk)(r:dC)(s2:Dk):Prop where
 t1:r.xF=true->s2.told=s.told+1/\s2.be+1<=s.be
 t2:r.xF=false->s2.told=s.told/\s2.be<=s.be
 st0:0<=s.st->0<=s2.st
 st1:s2.st+40000000000*s2.fu<=s.st+40000000000*s.fu
 need:en=true->r≠.need
def UI{ix d:Nat}(hd:d<=65536)(hn:col.length<=65536):0<=bi col ix d/\bi col ix d<=10000000000:=by
 have hb:=fm (col:=col) (ix:=ix) hd col.length 0;rw[gC];omega
def SV{s:Dk}{ev:ba}(h:DI s)(he:s.e=0)(hk:s.bk=none)(hN:cJ en s.c ev c2)(ha:ev.act=true):(s.act bud c2 ev).told=s.told/\(s.act bud c2 ev).be<=s.be/\(0<=s.st->0<=(s.act bud c2 ev).st)/\(s.act bud c2 ev).st+40000000000*(s.act bud c2 ev).fu<=s.st+40000000000*s.fu:=by
 obtain⟨N,h1,h2,h3,hev⟩:=h.ev he hN
 have plain:∀s2:Dk,s2.c=c2->s2.bk=none->s2.told=s.told->s2.st=s.st->c2.ro<=s.c.ro->s2.told=s.told/\s2.be<=s.be/\(0<=s.st->0<=s2.st)/\s2.st+40000000000*s2.fu<=s.st+40000000000*s.fu:=λs2 e1 e2 e3 e4 hr=>by
  simp only[Dk.be,Dk.fu,e1,e2,hk,e3,e4];exact⟨by trivial,FP,id,FP⟩
 cases ev with
|head n=>rw[Dk.act];split<;>exact plain _ rfl hk rfl rfl hev.2.2.1
|block k a b=>exact plain _ rfl hk rfl rfl hev.2.2.1
|bytes t=>exact plain _ rfl hk rfl rfl hev.2.2.1
|tail q=>rw[Dk.act];split<;>exact plain _ rfl hk rfl rfl hev.2.2.1
|bad e=>exact plain _ rfl hk rfl rfl hev.2.1
|U5 k a b=>
  obtain⟨_,e2,hro,hg,⟨_,n1,n2,_,_,_,m1,m2,p1,p2,_⟩,hE⟩:=hev;have hw:=UI (col:=s.out) (ix:=s.p.toNat) (yz s) FP;simp only[Dk.act];rw[Dk.ends];split
  .split
   .simp only[Dk.be,Dk.fu,hk];exact⟨by trivial,FP,id,FP⟩
   .exact Lz
  .exact Lz
|fin=>cases ha
|need=>cases ha
def DN.cnt{s s2:Dk}{r:dC}(h:DN bud en s r s2)(hI:DI s):Cnt en s r s2:=by
 induction h with
|err h=>exact⟨λh=>G6,λ_=>⟨rfl,aX _⟩,id,jG _,λ_ h=>G6⟩
|byte he hb=>
  rename_i s w;obtain⟨b1,b2,b3⟩:=hI.bk he w hb;have hk:=b2.k;obtain⟨_,q0,q1,_⟩:=b2.step;refine⟨λ_=>?_,(λh=>by cases h),λh0=>?_,?_,(λ_ h=>by cases h)⟩
  .rw[Dk.tell];split
   .refine⟨rfl,?_⟩;simp only[Dk.be,hb];omega
   .refine⟨rfl,?_⟩;simp only[Dk.be,hb,Wk.next];omega
  .rw[Dk.tell];split
   .simp only;omega
   .exact h0
  .rw[Dk.tell];split
   .exact sK
   .exact sK
|need he hb hN=>
  rename_i s c2;obtain⟨N,h1,h2,h3,hev⟩:=hI.ev he hN;have hr:=hev.2.1;refine⟨(λh=>by cases h),λ_=>⟨rfl,?_⟩,id,?_,λhen _=>?_⟩
  .simp only[Dk.be,hb];omega
  .exact sK
  .subst hen;exact hN.A6r rfl
|fin he hb hN=>
  rename_i s c2;obtain⟨N,h1,h2,h3,hev⟩:=hI.ev he hN;have hr:=hev.2.2.1;refine⟨(λh=>by cases h),λ_=>⟨rfl,?_⟩,id,?_,(λ_ h=>by cases h)⟩
  .simp only[Dk.be,hb];omega
  .exact sK
|act he hb hN ha hz _ ih=>
  have hc:=SV (bud:=bud) hI he hb hN ha;have hi:=ih (hI.act he hb hN ha hz);exact⟨λh=>⟨by rw[(hi.t1 h).1,hc.1],by have:=(hi.t1 h).2;omega⟩,λh=>⟨by rw[(hi.t2 h).1,hc.1],by have:=(hi.t2 h).2;omega⟩,λh=>hi.st0 (hc.2.2.1 h),by have:=hi.st1;omega,hi.need⟩
structure j5(F:Nat)(s:Dk):Prop where
 t0:0<=s.told
 t1:s.told+s.be<=65536*F
 s0:0<=s.st
 s1:s.st+40000000000*s.fu<=40000000000*F
def j5.next{s s2:Dk}{r:dC}(h:j5 F s)(hc:Cnt en s r s2):j5 F s2:=by
 obtain⟨a,b,c,d⟩:=h;cases hr:r.xF with
|true=>
  obtain⟨x,y⟩:=hc.t1 hr;exact B3
|false=>
  obtain⟨x,y⟩:=hc.t2 hr;exact B3
def Dk.feed(s:Dk)(m:ac):Dk:={s with c:={s.c with R:=s.c.R++m}}
def j5.feed{F:Nat}{s:Dk}(h:j5 F s)(m:ac):j5 (F+m.length) (s.feed m):=by
 have hr:(s.feed m).c.ro=s.c.ro+m.length:=by
  simp only[Dk.feed,Cf.ro,aV];split<;>omega
 obtain⟨a,b,c,d⟩:=h;refine⟨a,?_,c,?_⟩
 .have e:(s.feed m).be=s.be+65536*m.length:=by unfold Dk.be;rw[hr,show(s.feed m).bk=s.bk from rfl];omega
  rw[e];show s.told+_<=_;omega
 .have e:(s.feed m).fu=s.fu+m.length:=by unfold Dk.fu;rw[hr,show(s.feed m).bk=s.bk from rfl];omega
  rw[e];show s.st+_<=_;omega
def EI.feed(h:EI c N m p q g)(hl:Bytes l):EI {c with R:=c.R++l} N m p q g:=by
 obtain⟨hb,hj,h⟩:=h;refine⟨λx hx=>(dG.1 hx).elim (hb x) (hl x),by simp only[aV];omega,?_⟩;obtain⟨s,R,j⟩:=c;cases s<;>exact h
def DI.feed{s:Dk}{l:ac}(h:DI s)(hl:Bytes l):DI (s.feed l):=by
 refine⟨λhe=>?_,λhe w hw=>h.bk he w hw⟩;have hh:=h.hd he;cases hd:s.hd with
|none=>
  rw[hd]at hh;simp only[Dk.feed,hd];exact⟨hh.1,λN m p q g=>(hh.2 N m p q g).feed hl⟩
|some o=>
  rw[hd]at hh;simp only[Dk.feed,hd];exact⟨hh.1,hh.2.feed hl⟩
end
end Go.Proofs.YtkpbhdhkdonghaaGreat

set_option linter.all false
namespace Go.Proofs.YtkpbhdhkdonghaaGreat
open Go Go.RowKit
section
variable{en:Bool}{c c2:Cf}{p s x:Int}{R out r t:ac}
def Cv(l:ac)(ix:Nat):∀(k r:Nat)(acc:ac),eC l ix k r acc=if cD l ix k r=true then some ((ea l ix k r).reverse++acc)else none
|0,r,acc=>by
  rw[eC,cD];by_cases h:r=ix<;>simp[h,ea]
|k+1,r,acc=>by
  rw[eC,cD,ea];by_cases h:r=ix
  .simp[h]
  .rw[aP h,aP h,aP h,Cv l ix k];simp
def Gd(x:Int):bS x=(((4294967295#32:BitVec 32)^^^BitVec.ofInt 32 x).toNat:Int):=by
 have h:=((4294967295#32:BitVec 32)^^^BitVec.ofInt 32 x).isLt;exact(jO (((4294967295#32:BitVec 32)^^^BitVec.ofInt 32 x).toNat:Int) ⟨FP,FP⟩:_)
def pd(h:W32 x):bS (bS x)=x:=by
 obtain⟨n,rfl⟩:=dB h.1;have hn:n<2^32:=by have:=h.2;omega
 rw[Gd (bS n),Gd n,xU,BitVec.ofNat_toNat,BitVec.setWidth_eq,<-BitVec.xor_assoc,BitVec.xor_self,BitVec.zero_xor,xU,Cj,xX hn]
def B':∀(t:ac)(a:Int),W32 a->fS (bS a) t=bS (fd a t)
|[],a,_=>rfl
|b::t,a,h=>by
  have e:crc (bS a) [[b]]=bS (my a b):=by
   show bS (my (bS (bS a)) b)=_;rw[pd h]
  show fS (crc (bS a) [[b]]) t=_;rw[e,B' t (my a b) (Rj _)];rfl
def P6:fS 0 t=crc 0 [t]:=by
 have h:W32 (bS 0):=Rj _;have e:(0:Int)=bS (bS 0):=(pd ⟨FU,FU⟩).symm;have:=B' t (bS 0) h;rw[<-e]at this;exact this
def Y':chk out p s=if cD out p.toNat out.length 0=true then(if fS 0 (ea out p.toNat out.length 0)=s then .ok (ea out p.toNat out.length 0)else .error 250)else .error 170:=by
 rw[chk,Cv,P6];by_cases h:cD out p.toNat out.length 0=true
 .simp only[h,fP,fF,List.reverse_reverse]
 .simp only[h];rfl
def Cf.ext(c:Cf)(r:ac):Cf:={c with R:=c.R++r}
def wP{j:Nat}(h:j<8*R.length):AP (R++r) j=AP R j:=by
 have e:gi (R++r) (j/8)=gi R (j/8):=by
  rw[BZ _ _ (show j/8<(R++r).length by rw[aV];omega),BZ _ _ (show j/8<R.length by omega)];exact Fp _
 unfold AP;rw[e]
def Py{j:Nat}(h:j<=8*R.length):zpad (R++r) j=zpad R j:=by
 unfold zpad;refine EF.2 ?_;simp only[zE,dS];exact forall_congr' λi=>forall_congr' λhi=>by rw[wP FP]
def Sz(hj:c.j<=8*c.R.length)(hs:starved c=false\/r=[]):AB (c.ext r)=((AB c).1,(AB c).2.ext r):=by
 obtain⟨s,R,j⟩:=c;rcases hs with hs|rfl
 .cases s with
 |head t=>
   cases R with
  |nil=>cases hs
  |cons x R=>simp only[Cf.ext,AB,eG];cases t.step x<;>rfl
 |mark n t=>
   cases R with
  |nil=>cases hs
  |cons x R=>simp only[Cf.ext,AB,eG];cases t.step n x<;>rfl
 |table n m p s t=>
   have h:j<8*R.length:=by simpa[starved]using hs
   have h2:j<8*(R++r).length:=by rw[aV];omega
   simp only[Cf.ext,AB,aQ h,aQ h2,Oj,wP h];split
   .split<;>rfl
   .rfl
 |syms n m p s L q k b=>
   have h:j<8*R.length:=by simpa[starved]using hs
   have h2:j<8*(R++r).length:=by rw[aV];omega
   simp only[Cf.ext,AB,aQ h,aQ h2,eY,wP h,MQ];split
   .split
    .split<;>rfl
    .rfl
   .rfl
 |pad n m p s=>
   simp only[Cf.ext,AB,Py hj];have hk:(j+7)/8<=R.length:=by have:j<=8*R.length:=hj;omega
   rw[uD hk];split<;>rfl
 |behind=>
   have h:0<R.length:=by
    cases R with
   |nil=>cases hs
   |cons x R=>simp
   have h2:0<(R++r).length:=by rw[aV];omega
   have e1:AB ⟨.behind,R,j⟩=(some (.bad 261),⟨.bad 261,R,j⟩):=aQ h;have e2:AB ⟨.behind,R++r,j⟩=(some (.bad 261),⟨.bad 261,R++r,j⟩):=aQ h2;show AB ⟨.behind,R++r,j⟩=((AB ⟨.behind,R,j⟩).1,(AB ⟨.behind,R,j⟩).2.ext r);rw[e1,e2];rfl
 |over=>rfl
 |bad e=>rfl
 .simp only[Cf.ext,fF]
def PQ(h:c.j<=8*c.R.length):(AB c).2.j<=8*(AB c).2.R.length:=by
 obtain⟨s,R,j⟩:=c;cases s with
|head t=>
  cases R with
 |nil=>exact h
 |cons x R=>simp only[AB];cases t.step x<;>exact dD _
|mark n t=>
  cases R with
 |nil=>exact h
 |cons x R=>simp only[AB];cases t.step n x<;>exact dD _
|table n m p s t=>
  simp only[AB];split
  .simp only[Oj];split
   .split<;>(simp only;omega)
   .simp only;omega
  .exact h
|syms n m p s L q k b=>
  simp only[AB];split
  .simp only[eY];split
   .simp only[MQ];split<;>(simp only;omega)
   .simp only;omega
  .exact h
|pad n m p s=>
  simp only[AB];split<;>exact dD _
|behind=>simp only[AB];split<;>exact h
|over=>exact h
|bad e=>exact h
def OK{o:Option ba}(hj:c.j<=8*c.R.length)(hr:en=true->r=[])(h:br en c=(o,c2)):(o=some .need/\c2=c)\/(AB (c.ext r)=(o,c2.ext r)/\c2.j<=8*c2.R.length):=by
 unfold br at h;split at h
 .cases h;exact .inl ⟨rfl,rfl⟩
 .rename_i hs
  have hs':starved c=false\/r=[]:=by
   cases en with
  |true=>exact .inr (hr rfl)
  |false=>exact .inl Hw
  refine .inr ⟨by rw[Sz hj hs',h],?_⟩;have:=PQ hj;rw[h]at this;exact this
def wN(c2:Cf)(out x:ac)(b:Nat):ba->ac×Nat×Int
|.block _ _ _=>G c2 [] x b
|.bytes t=>G c2 (out++t) x b
|.U5 _ p s=>match chk out p s with
 |.error e=>(x,b,e)
 |.ok t=>G c2 [] (x++t) (b+1)
|.tail s=>if s=crc 0 [x]then G c2 out x b else(x,b,260)
|.fin=>(x,b,0)
|.bad e=>(x,b,e)
|_=>G c2 out x b
def cJ.G{en:Bool}{c c2:Cf}{ev:ba}{r:ac}(h:cJ en c ev c2)(hj:c.j<=8*c.R.length)(hr:en=true->r=[])(out x:ac)(b:Nat):Go.Proofs.YtkpbhdhkdonghaaGreat.G (c.ext r) out x b=wN (c2.ext r) out x b ev:=by
 induction h with
|now h=>
  rename_i c ev c2;rcases OK hj hr h with⟨h1,rfl⟩|⟨h1,_⟩
  .cases h1;rfl
  .rw[Go.Proofs.YtkpbhdhkdonghaaGreat.G];cases ev with
  |need=>exact absurd (by rw[h1]) (N3 (c.ext r))
  |U5 m p s=>simp[h1,H6,ba.last,wN];rfl
  |_=>simp[h1,H6,ba.last,wN]
|later h hn ih=>
  rename_i c ev c2;rcases OK hj hr (uF h rfl:br en c=(none,(br en c).2))with⟨h1,_⟩|⟨h1,h2⟩
  .cases h1
  .rw[<-ih h2];rw[NJ (by rw[h1]),h1]
end
open Go Tryz Go.RowKit
def V4.feed{c:Cf}{k:Nat}{hs ms ts cs ds er:ai}(h:V4 c k hs ms ts cs ds er)(r:ac):V4 {c with R:=r} k hs ms ts cs ds er:=by
 obtain⟨s,R,j⟩:=c;cases s<;>exact h
def EE{gd gr gq gp:O9}{X E RR:ae}:(gd::gr::(X++(gq::(RR++(gp::E))))).Perm (gq::gd::(RR++(gp::gr::(X++E)))):=by
 have e:∀(A B:ae)(g:O9),(A++(g::B)).Perm (g::(A++B)):=λA B g=>jo
 have h:∀(U V W:ae),(U++(V++W)).Perm (V++(U++W)):=λU V W=>by
  exact xe
 have t1:(X++(gq::(RR++(gp::E)))).Perm (gq::(RR++(gp::(X++E)))):=(e X _ gq).trans (((h X RR _).trans ((e X E gp).append_left RR)).cons gq);have t2:(RR++(gp::gr::(X++E))).Perm (gr::(RR++(gp::(X++E)))):=((fM gr gp _).append_left RR).trans (e RR _ gr);refine((t1.cons gr).cons gd).trans ?_;refine xA ?_ ((t2.cons gd).cons gq).symm;exact((fM gq gr _).cons gd).trans (fM gq gd _)
def ox{gd gr gp:O9}{Z RR:ae}:(gd::gr::(RR++(gp::Z))).Perm (gd::(RR++(gp::gr::Z))):=by
 have e:∀(A B:ae)(g:O9),(A++(g::B)).Perm (g::(A++B)):=λA B g=>jo;exact(((e RR _ gr).symm).trans ((fM gp gr _).append_left RR)).cons gd
section
variable{bud gd gr gp F:Nat}{s:Dk}{w0 w:FC}{ss:O1}{R rs:ae}
def A6q{gq:Nat}{u:NY}{m:ac}(h:cN bud gd gr gp F false rs s R)(hF:F+m.length<=4000000)(hbm:Bytes m)(hu:∀W rr,Own w0 W rr ss->Src W u (vs .u8 m))(hm:Own w0 w ((gq,#[u])::R) ss):ak 18 #[gd,.slice gq 1 1] w λx w'=>x=.returned (.bool true)/\∃R2,cN bud gd gr gp (F+m.length) false rs (s.feed m) R2/\Own w0 w' R2 ss:=by
 obtain⟨D,P,rfl,hP,hD,hI⟩:=h;obtain⟨md,pa,sv,bv,RR,rfl⟩:=hD.row;obtain⟨k,hs,ms,ts,cs,ds,er,RP,hPe,hk,hz,hp,X,E,v,used,rfl,ht,hB,hl,hj,hu0,hu8,hF1⟩:=hP [];simp only[fF]at hPe;subst hPe;simp only[aI,eG]at hm;refine(Uy s.m s.p s.q s.out.length s.st s.told s.all s.e (RR++((gp,PR (PT (k+1)) hs ms ts cs ds er)::(E++rs))) ((s.c.j%8:Nat):Int) (s.c.R.drop (s.c.j/8)) (hm.perm EE) ht hu (by simp only[dQ];omega)).mono ?_;rintro x w'⟨rfl,X2,v2,ht2,hm2⟩;have hm3:=(hm2.perm EE.symm).dropRow;have hd8:s.c.j/8<=s.c.R.length:=FP
 refine⟨rfl,_,⟨_,(gp,PR (PT (k+1)) hs ms ts cs ds er)::(gr,RD v2 ((s.c.j%8:Nat):Int) used false)::(X2++E),rfl,λrs=>⟨k,hs,ms,ts,cs,ds,er,_,rfl,hk,hz,hp.feed _,X2,E,v2,used,by simp only[aI,List.append_eq,eG];rfl,?_,?_,?_,?_,hu0,?_,hF⟩,hD.keep rfl rfl rfl rfl rfl rfl rfl rfl rfl id,hI.feed hbm⟩,by simpa only[aI,eG]using hm3⟩
 .show Tail X2 v2 ((s.c.R++m).drop (s.c.j/8));rw[uD hd8];exact ht2
 .exact λx hx=>(dG.1 hx).elim (hB x) (hbm x)
 .show(s.c.R++m).length<=F+m.length;rw[aV];omega
 .show s.c.j<=8*(s.c.R++m).length;rw[aV];omega
 .show used+((8*(s.c.R++m).length-s.c.j:Nat):Int)=8*(F+m.length:Nat);rw[aV];omega
def XS(h:cN bud gd gr gp F false rs s R)(hm:Own w0 w R ss):ak 21 #[gd] w λx w'=>x=.returned (.bool true)/\∃R2,cN bud gd gr gp F true rs s R2/\Own w0 w' R2 ss:=by
 obtain⟨D,P,rfl,hP,hD,hI⟩:=h;obtain⟨md,pa,sv,bv,RR,rfl⟩:=hD.row;obtain⟨k,hs,ms,ts,cs,ds,er,RP,hPe,hk,hz,hp,X,E,v,used,rfl,ht,hB,hl,hj,hu0,hu8⟩:=hP [];simp only[fF]at hPe;subst hPe;simp only[aI,eG]at hm;refine(a0r s.m s.p s.q s.out.length s.st s.told s.all s.e (RR++((gp,PR (PT (k+1)) hs ms ts cs ds er)::(X++(E++rs)))) ((s.c.j%8:Nat):Int) (hm.perm ox)).mono ?_;rintro x w'⟨rfl,hm2⟩;refine⟨rfl,_,⟨_,(gp,PR (PT (k+1)) hs ms ts cs ds er)::(gr,RD v ((s.c.j%8:Nat):Int) used true)::(X++E),rfl,λrs=>⟨k,hs,ms,ts,cs,ds,er,_,rfl,hk,hz,hp,X,E,v,used,by simp only[aI,List.append_eq,eG],ht,hB,hl,hj,hu0,hu8⟩,hD,hI⟩,by simpa only[aI,eG]using hm2.perm ox.symm⟩
def nB:Dk:=⟨⟨.head ⟨0,0,0⟩,[],0⟩,none,[],0,0,0,none,0,0,0,0⟩
def DI.start:DI nB:=⟨λ_=>⟨rfl,λN m p q g=>⟨λx hx=>(by cases hx),aX _,.inl ⟨FU,FU,rfl,rfl⟩⟩⟩,λ_ w hw=>by cases hw⟩
def j5.start:j5 0 nB:=⟨FU,FU,FU,FU⟩
def A5U(b:Nat)(b1:1<=b)(b2:b<=1048576)(hm:Own w0 w [] ss):ak 17 #[.int .i64 b] w λx w'=>∃gd gr gp R,x=.returned (.tuple #[.pointer (some ⟨gd,0,none⟩),.int .i64 0])/\cN b gd gr gp 0 false [] nB R/\Own w0 w' R ss:=by
 refine(a0x [] hm b1 b2).mono ?_;rintro x w'⟨gd,ga,gx,gr,gp,rfl,hm⟩;have hz:(List.replicate b (0:Int)).length=b:=fp ..;refine⟨gd,gr,gp,_,rfl,⟨(gd,DRw b 0 (.pointer ga) (.pointer (some ⟨gr,0,none⟩)) (.pointer (some ⟨gp,0,none⟩)) (.slice none 0 0) 0 0 0 0 .nilIface 0 0 0 0)::([]++((ga,AR (.slice gx (List.replicate b (0:Int)).length (List.replicate b (0:Int)).length) 0 0)::(gx,B (List.replicate b 0))::[])),[(gp,pD),(gr,RD (.slice none 0 0) 0 0 false)],rfl,λrs=>Rel.start (v:=.nilIface),⟨ga,gx,0,0,List.replicate b 0,0,0,0,_,_,[],[],hz,λx hx=>by rw[ni hx];decide,FU,FP,FP,rfl,⟨rfl,λ_=>rfl⟩,λ_=>⟨⟨rfl,rfl,rfl,rfl,rfl,rfl⟩,rfl,rfl⟩⟩,DI.start⟩,?_⟩;rw[hz];refine hm.perm ?_;exact jr _ (gK (l₁:=[_,_]) (l₂:=[_,_]))
end
end Go.Proofs.YtkpbhdhkdonghaaGreat
