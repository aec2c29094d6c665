/- Part 32 of the proof. -/
import Derived.Test.YtkpbhdhkdonghaaGreatS16
import Derived.Test.YtkpbhdhkdonghaaGreatS31
set_option linter.all false
set_option maxHeartbeats 2000000
set_option maxRecDepth 100000
namespace Go.Proofs.YtkpbhdhkdonghaaGreat
open Go Tryz Go.RowKit
section
variable{A:Addr}{xs:ar}{c kt mt n r vt:Nat}{x y:O7}{t':O4}{k z:NY}
section
variable{w0 w:FC}{rs:ae}{ss:O1}{o:Oz}{a:OA}
def AhS{v:NY}(i:Nat)(hm:Own w0 w rs ss)(ho:o.op=.lookup mt x y true)(hx:a.eval x=.map (some r))(hy:a.eval y=k)(hi:ss[i]?=some (IK r xs))(hu:prog.underlying mt=some (.map kt vt))(kl:Maps.Keyed prog kt)
  (hk:∃l,keyOf prog kt k=some l)(hks:∀p∈BN xs,∃l,keyOf prog kt p.1=some l)(hin:∃p∈BN xs,p.1=k)(hv:∀p∈BN xs,p.1=k->p.2=v):(execOp a.eval o).run prog w=.ok (.value (.tuple #[v,.bool true])) w:=by
 obtain⟨es,clock,he,h1,h2,_⟩:=((hm.sl _ (dT hi)).map).2;obtain⟨l,hl⟩:=hk
 have hr:(Instr.lookup mt (.map (some r)) k true).run prog w=.ok (.tuple #[v,.bool true]) w:=by
  exact Mu
 unfold execOp;exact sY
def Ra(i:Nat)(hm:Own w0 w rs ss)(ho:o.op=.lookup mt x y true)(hx:a.eval x=.map (some r))(hy:a.eval y=k)(hi:ss[i]?=some (IK r xs))(hu:prog.underlying mt=some (.map kt vt))(kl:Maps.Keyed prog kt)
  (hk:∃l,keyOf prog kt k=some l)(hks:∀p∈BN xs,∃l,keyOf prog kt p.1=some l)(hin:∀p∈BN xs,p.1≠k)(hz:∀w,(zeroValue vt).run prog w=.ok z w):(execOp a.eval o).run prog w=.ok (.value (.tuple #[z,.bool false])) w:=by
 obtain⟨es,clock,he,h1,h2,_⟩:=((hm.sl _ (dT hi)).map).2;obtain⟨l,hl⟩:=hk
 have hr:(Instr.lookup mt (.map (some r)) k true).run prog w=.ok (.tuple #[z,.bool false]) w:=by
  rcases kl.find w hl es.toList (λe hm=>hks (e.key,e.val) (h1 e hm))with⟨f1,f2⟩|⟨j,e0,f1,f2,f3⟩
  .simp[Instr.lookup,bL hu,mP he,kl.check w _ hl,f1,Result.andThen,hz]
  .exact absurd f3 (hin _ (h1 e0 (dT f2)))
 unfold execOp;exact sY
def LS(i:Nat)(hm:Own w0 w rs ss)(ho:o.op=.call {callee:=.builtin .len,args:=#[x],argTypes:=#[mt]})(hx:a.eval x=.map (some r))(hi:ss[i]?=some (IK r xs))(hu:prog.underlying mt=some (.map kt vt)):(execOp a.eval o).run prog w=.ok (.value (.int .i64 ((BN xs).length:Nat))) w:=by
 obtain⟨es,clock,he,h1,h2,h3⟩:=((hm.sl _ (dT hi)).map).2;unfold execOp;simp[ho,hx,resolve,invoke,builtin,Builtin.len_,bL hu,mP he,Result.andThen,h3,goInt]
def Abr(ho:o.op=.binOp .eql 239 x y t')(hx:a.eval x=.slice (some A) n c)(hy:a.eval y=.slice none 0 0):(execOp a.eval o).run prog w=.ok (.value (.bool false)) w:=by
 have hr:(Op.equal 239 (.slice (some A) n c) (.slice none 0 0)).run prog w=.ok false w:=WL w 9999 239 241 A n c underlying239;unfold execOp;simp[ho,hx,hy,eqGuard,binOp,hr,Result.andThen]
end
def pP(p:Pr):Value:=.agg #[.int .i64 p.1,.int .i64 p.2]
def vB{p q:Pr}(h:pP p=pP q):p=q:=by
 obtain⟨a,b⟩:=p;obtain⟨c,d⟩:=q;simp[pP]at h;rw[h.1,h.2]
def dj(f:Pr->Nat)(s:List Pr):Nat->ar
|0=>[]
|k+1=>if gp s k∈s.take k then dj f s k else pP (gp s k)::.int .i64 (f (gp s k):Nat)::dj f s k
def G2(s:List Pr)(k:Nat)(h:k<s.length):s.take (k+1)=s.take k++[gp s k]:=by
 rw[List.take_add_one,fe h,k7 s k h];rfl
def lx(f:Pr->Nat)(s:List Pr):∀k,k<=s.length->∀q,q∈BN (dj f s k)↔∃p∈s.take k,q=(pP p,.int .i64 (f p:Nat))
|0,_,q=>by simp[dj,BN]
|k+1,hk,q=>by
  have ih:=lx f s k FP q;rw[dj,G2 s k FP];by_cases h:gp s k∈s.take k
  .rw[aQ h,ih]
   constructor
   .rintro⟨p,hp,e⟩;exact⟨p,jU _ hp,e⟩
   .rintro⟨p,hp,e⟩;rcases dG.1 hp with hp|hp
    .exact⟨p,hp,e⟩
    .obtain rfl:=fC.1 hp;exact⟨_,h,e⟩
  .rw[aP h,BN,dh,ih]
   constructor
   .rintro(rfl|⟨p,hp,e⟩)
    .exact⟨gp s k,G5,rfl⟩
    .exact⟨p,jU _ hp,e⟩
   .rintro⟨p,hp,e⟩;rcases dG.1 hp with hp|hp
    .exact .inr ⟨p,hp,e⟩
    .obtain rfl:=fC.1 hp;exact .inl e
def R5(l:List Pr)(a:Pr):many (l++[a])=many l+if a∈l then 0 else 1:=by
 by_cases h:a∈l
 .rw[aQ h,many,many,mW]
  exact s7 (ia _) (ia _) λx=>by
   rw[fx,fx,dG,fC];exact⟨λh2=>h2.elim id λe=>e▸h,.inl⟩
 .rw[aP h,many,many];have:(a::eV l).Nodup:=dR.2 ⟨λh2=>h (fx.1 h2),ia l⟩
  rw[s7 (ia (l++[a])) this λx=>by
   rw[fx,dG,fC,dh,fx]
   exact or_comm]
  rfl
def ux(f:Pr->Nat)(s:List Pr):∀k,k<=s.length->(BN (dj f s k)).length=many (s.take k)
|0,_=>rfl
|k+1,hk=>by
  have ih:=ux f s k FP;rw[dj,G2 s k FP,R5];by_cases h:gp s k∈s.take k
  .rw[aQ h,aQ h,ih];rfl
  .rw[aP h,aP h,BN,bD,ih]
def X6{l m:List Pr}(h:l.Perm m)(p:Pr):rk l p=rk m p:=Rv _ (ia l) (ia m) λx=>by rw[fx,fx,h.mem_iff]
def Wn{l m:List Pr}(h:l.Perm m):many l=many m:=s7 (ia l) (ia m) λx=>by rw[fx,fx,h.mem_iff]
def U3{s:List Pr}(hs:s.Pairwise λa b=>eh b a=false){k:Nat}(hk:k<s.length)(hn:gp s k∉s.take k):many (s.take k)=rk s (gp s k):=by
 rw[rk,List.countP_eq_length_filter,many];refine s7 (ia _) ((ia s).filter _) λx=>?_;rw[fx,lX,fx];have hp:=og.1 hs
 constructor
 .intro hx;obtain⟨i,hi,rfl⟩:=uh hx;rw[fZ]at hi;rw[zW];refine⟨dF _,?_⟩;have h1:=hp i k FP hk FP;rcases qe s[i] (gp s k)with h2|h2|h2
  .exact h2
  .have hx2:s[i]∈s.take k:=by rw[zW]at hx;exact hx
   rw[h2]at hx2;exact absurd hx2 hn
  .rw[k7 s k hk]at h2;rw[h2]at h1;cases h1
 .rintro⟨hx,h1⟩;obtain⟨i,hi,rfl⟩:=uh hx;rw[k7 s k hk]at h1
  have hik:i<k:=by
   rcases qX i k with h|h|h
   .exact h
   .subst h;rw[nz]at h1;cases h1
   .have:=hp k i hk hi h;rw[this]at h1;cases h1
  have h9:i<(s.take k).length:=by rw[fZ];omega
  have:s[i]=(s.take k)[i]:=by rw[zW]
  rw[this];exact dF _
def nW{n:Int}(h1:-1<=n)(h2:n<=2000000):(Lit.int .i64 n).wf=true:=GB
end
open Go.Sort
def Agj{gl:Nat}(l:List Pr){w0 w:FC}{rs:ae}{ss:O1}(hm:Own w0 w ((gl,(flat l).toArray)::rs) ss)(hn:l.length<=1000000):ak 203 #[.slice gl l.length l.length] w λe w'=>∃X v,e=.returned v/\Lies 2 X v l.length (flat l)/\Own w0 w' (X++((gl,(flat l).toArray)::rs)) ss:=by
 obtain⟨i1,hE⟩:=xC;have HE:=aa hE;have HF:Hid (∀g W,Own w0 W ([]++([(g,#[])]++((gl,(flat l).toArray)::rs))) ss->From 2 W (.slice gl l.length l.length) l.length (flat l)):=λg W h=>From.io (h.row 1 rfl) 0 (fW l) (λj u hj=>by rw[dA,jI];exact hj);have HO:=aa (Zz l);have HL0:Hid (∀g,Lies 2 [(g,(#[]:ai))] (.slice (some ⟨g,0,none⟩) 0 0) 0 []):=λg=>Lies.io rfl (aX _) G5 (λj hj=>by simp at hj);clear hE;go_enter func203,ntmps203
 go_wp2_with(first
 |refine A8 rfl (Abr rfl rfl rfl) ?_
 |(have hm2:=hm.alloc #[] 241;clear hm;refine Ad rfl (GR (A:=[]) hm2 rfl HE.o rfl (HL0.o _) rfl (HF.o _) HO.o FP FP FP ?_);clear hm2;intro X v w hX hm))
 go_ret;exact⟨X,v,rfl,by simpa using hX,hm⟩
section
variable{a:OA}{ss:O1}{xs:ar}{gl kt mt r vt:Nat}{o:Oz}{x y z:O7}{rs:ae}{k:NY}{w w0:FC}
def AdO{K:Value->FC->Prop}{v:NY}(hm:Own w0 w rs (IK r xs::ss))(hd:∀s∈ss,s.2.1≠Ey+r)(ho:o.op=.mapUpdate mt x y z)(hx:a.eval x=.map (some r))(hy:a.eval y=k)(hz:a.eval z=v)(hu:prog.underlying mt=some (.map kt vt))(kl:Maps.Keyed prog kt)
  (hk:∃l,keyOf prog kt k=some l)(hks:∀p∈BN xs,∃l,keyOf prog kt p.1=some l)(hn:∀p∈BN xs,p.1≠k)(h:∀w',Own w0 w' rs (IK r (k::v::xs)::ss)->K undef w'):Eff prog o a w K:=by
 obtain⟨w',hr,h2⟩:=Y7 (v:=v) hu kl hm hd hk hks hn;refine Eff.skip (w':=w') ?_ (h _ h2);unfold execOp;simp only[ho,hx,hy,hz,aL,hr,aS,bw]
def Za:∀w,(zeroValue 3).run prog w=.ok (.int .i64 0) w:=λw=>by kernel_rfl
def Adw(l:List Pr)(hm:Own w0 w ((gl,(flat l).toArray)::rs) ss)(hb:∀p∈l,-1<=p.1/\p.1<=2000000/\-1<=p.2/\p.2<=2000000)(n1:1<=l.length)(hn:l.length<=1000000):ak 165 #[.slice gl l.length l.length] w λe w'=>∃X v,e=.returned (.tuple #[v,.int .i64 (many l)])/\Lies 1 X v l.length (vs .i64 (aE l))/\Own w0 w' ((gl,(flat l).toArray)::(X++rs)) ss:=by
 have HB:=aa hb;obtain⟨i1,hE1⟩:=xC;have HE239:=aa hE1;obtain⟨i2,hE2⟩:=wM;have HE:=aa hE2;obtain⟨i3,hE3⟩:=nR;have HL:=aa hE3;have CC:Hid (∀W,Own w0 W ((gl,(flat l).toArray)::rs) ss->ak 203 #[.slice gl l.length l.length] W λe w'=>∃X v,e=.returned v/\Lies 2 X v l.length (flat l)/\Own w0 w' (X++((gl,(flat l).toArray)::rs)) ss):=λW h=>Agj l h hn
 have CS:Hid (∀(W:FC)(g p n c:Nat)(cells:ai),n<=1000000->Lies 2 [(g,cells)] (.slice (some ⟨g,p,none⟩) n c) n (flat l)->Own w0 W ((g,cells)::(gl,(flat l).toArray)::rs) ss->ak 204 #[.slice (some ⟨g,p,none⟩) n c,.func (.func 205) #[] #[]] W λe w'=>e=.returned (.tuple #[])/\∃(l':List Pr)(cells':ai),l'.Perm l/\l'.Pairwise (λa b=>eh b a=false)/\Lies 2 [(g,cells')] (.slice (some ⟨g,p,none⟩) n c) n (flat l')/\Own w0 w' ((g,cells')::(gl,(flat l).toArray)::rs) ss):=λW g p n c cells hn hX h=>AgM h hX hn;have HFL:=aa (rf l);have HLEN:=aa (fW l);clear hE1 hE2 hE3 hb;obtain⟨n,hnl⟩:∃n,n=l.length:=⟨_,rfl⟩;rw[<-hnl]at hn n1 CC HLEN HFL⊢;have HNL:=aa hnl;clear hnl;go_enter func165,ntmps165
 go_wp2_with(first
 |(go_at_call 203;have _t:=hm;refine(CC.o _ hm).mono ?_;clear _t;clear hm;rintro e w1⟨X1,v1,rfl,hX1,hm⟩;have hX1':=hX1;obtain⟨g1,p1,c1,cells1,rfl,rfl,_,_,_,_⟩:=hX1'.pos FP;have HX1:=aa hX1;clear hX1 hX1')
 |(go_at_call 204;have _t:=hm;refine(CS.o _ _ _ _ _ _ hn HX1.o hm).mono ?_;clear _t HX1;clear hm;rintro e w2⟨rfl,s,cells2,hP,hS,hX2,hm⟩;have HP:=aa hP;have HSO:=aa hS;have HX2:=aa hX2;clear hP hS hX2)
 |(refine Ad rfl (BD hm rfl ?_);clear hm;intro w3 r hm hd;have HD:=aa hd;clear hd)
 |refine UV ?_;try(clear hm;intro w gp hm))
 have hsl:s.length=n:=by rw[HP.o.length_eq,HNL.o]
 have HSL:=aa hsl
 have HFS:Hid (∀k,k<n->cells2[p1+k*2]?=some (.int .i64 (gp s k).1)/\cells2[p1+k*2+1]?=some (.int .i64 (gp s k).2)):=λk hk=>by
  have h:=rf s k FP;exact⟨HX2.o.cell h.1,by rw[gG];exact HX2.o.cell h.2⟩
 clear hsl HX2
 go_loopw[19] (λu wr=>∃k:Nat,k<=n/\u=.int .i64 k/\Own w0 wr ((g1,cells2)::(gl,(flat l).toArray)::rs) (IK r (dj (rk s) s k)::ss)) (λu _=>n-(intOf u).toNat)
 case atStart=>exact⟨0,FP,rfl,hm⟩
 case round=>
  clear hm;obtain⟨k,hk,rfl,hm⟩:=hrel;by_cases hlt:k<n
  .have w3:IntKind.i64.wrap ((k:Int)+1)=((k+1:Nat):Int):=by rw[aZ _ FP];push_cast;rfl
   obtain⟨hf0,hf1⟩:=HFS.o k hlt;have hks:k<s.length:=by rw[HSL.o];exact hlt
   have HKS:Hid (∀q∈BN (dj (rk s) s k),∃l,keyOf prog 241 q.1=some l):=λq hq=>by
    obtain⟨p,hp,rfl⟩:=(lx (rk s) s k FP q).1 hq;exact P4
   have hmem:gp s k∈s:=kO s k hks;have hbp:=HB.o (gp s k) (HP.o.mem_iff.1 hmem);have HK:Hid (∃l,keyOf prog 241 (.agg #[.int .i64 (gp s k).1,.int .i64 (gp s k).2])=some l):=aa (vD (nW hbp.1 hbp.2.1) (nW hbp.2.2.1 hbp.2.2.2));by_cases hin:gp s k∈s.take k
   .have HIN:Hid (∃q∈BN (dj (rk s) s k),q.1=Value.agg #[.int .i64 (gp s k).1,.int .i64 (gp s k).2]):=aa ⟨_,(lx (rk s) s k FP _).2 ⟨gp s k,hin,rfl⟩,rfl⟩
    have HVV:Hid (∀q∈BN (dj (rk s) s k),q.1=Value.agg #[.int .i64 (gp s k).1,.int .i64 (gp s k).2]->q.2=.int .i64 (rk s (gp s k):Nat)):=λq hq he=>by
     obtain⟨p,hp,rfl⟩:=(lx (rk s) s k FP q).1 hq;have:p=gp s k:=vB he;rw[this]
    have HM:Hid (dj (rk s) s (k+1)=dj (rk s) s k):=aa (by rw[dj,aQ hin]);clear hin hmem hbp hks;generalize rk s (gp s k)=z at*;generalize (gp s k).1=a at*;generalize (gp s k).2=b at*;generalize dj (rk s) s k=xs at*
    go_wp2_with(first
    |with_reducible refine cA (t:=239) ?_;(refine A8 rfl (ix rfl HE239.o rfl rfl rfl hlt) ?_)
    |with_reducible refine bh (t:=241) ?_;(first|refine A8 rfl (jb 0 hm rfl rfl rfl (ag rfl) hf0 hf1) ?_|with_reducible refine aM _ 0 hm ?_)
    |with_reducible refine wa 241 hm ry ?_;clear hm;intro w4 g7 hm
    |refine A8 rfl (AhS 0 hm rfl rfl rfl rfl underlying295 rz HK.o HKS.o HIN.o HVV.o) ?_
    |refine UV ?_;try(clear hm;intro w gp hm))
    exact Hh
   .have HIN:Hid (∀q∈BN (dj (rk s) s k),q.1≠Value.agg #[.int .i64 (gp s k).1,.int .i64 (gp s k).2]):=λq hq he=>by
     obtain⟨p,hp,rfl⟩:=(lx (rk s) s k FP q).1 hq;exact hin (by rw[<-show p=gp s k from vB he];exact hp)
    have HM:Hid (dj (rk s) s (k+1)=.agg #[.int .i64 (gp s k).1,.int .i64 (gp s k).2]::.int .i64 ((BN (dj (rk s) s k)).length:Nat)::dj (rk s) s k):=aa (by
     rw[ux _ _ _ FP,U3 HSO.o hks hin,dj,aP hin]
     rfl)
    clear hin hmem hbp hks;generalize (gp s k).1=a at*;generalize (gp s k).2=b at*;generalize hxs:dj (rk s) s k=xs at*
    go_wp2_with(first
    |with_reducible refine cA (t:=239) ?_;(refine A8 rfl (ix rfl HE239.o rfl rfl rfl hlt) ?_)
    |with_reducible refine bh (t:=241) ?_;(first|refine A8 rfl (jb 0 hm rfl rfl rfl (ag rfl) hf0 hf1) ?_|with_reducible refine aM _ 0 hm ?_)
    |with_reducible refine wa 241 hm ry ?_;clear hm;intro w4 g7 hm
    |refine A8 rfl (Ra 0 hm rfl rfl rfl rfl underlying295 rz HK.o HKS.o HIN.o Za) ?_
    |refine A8 rfl (LS 0 hm rfl rfl rfl underlying295) ?_
    |refine Ad rfl (AdO hm HD.o rfl rfl (Ac rfl) (Ac rfl) underlying295 rz HK.o HKS.o HIN.o ?_);clear hm;intro w6 hm
    |refine UV ?_;try(clear hm;intro w gp hm))
    exact Hh
  .obtain rfl:k=n:=FP
   have HKS:Hid (∀q∈BN (dj (rk s) s k),∃l,keyOf prog 241 q.1=some l):=λq hq=>by
    obtain⟨p,hp,rfl⟩:=(lx (rk s) s k IB q).1 hq;exact P4
   have HIN:Hid (∀p∈l,∃q∈BN (dj (rk s) s k),q.1=Value.agg #[.int .i64 p.1,.int .i64 p.2]):=λp hp=>⟨_,(lx (rk s) s k IB _).2 ⟨p,by rw[jC IB];exact HP.o.mem_iff.2 hp,rfl⟩,rfl⟩
   have HVV:Hid (∀p,∀q∈BN (dj (rk s) s k),q.1=Value.agg #[.int .i64 p.1,.int .i64 p.2]->q.2=.int .i64 (rk l p:Nat)):=λp q hq he=>by
    obtain⟨p2,hp,rfl⟩:=(lx (rk s) s k IB q).1 hq;have:p2=p:=vB he;rw[this,X6 HP.o]
   have HLM:Hid ((BN (dj (rk s) s k)).length=many l):=aa (by rw[ux _ _ _ IB,jC IB,Wn HP.o]);have hm0:Own w0 wr ((gl,(flat l).toArray)::([]++rs)) (IK r (dj (rk s) s k)::ss):=hm.dropRow;clear hm hlt hk HFS HSO HP HSL;have hm:=hm0;clear hm0;generalize dj (rk s) s k=M at*;go_wp2
   go_loopw[2,38] (λz u wr=>∃(j:Nat)(X:ae)(a2:Ov)(c2:Nat),j<=k/\u=.int .i64 j/\z=.slice a2 j c2/\Lies 1 X z j (vs .i64 ((aE l).take j))/\Own w0 wr ((gl,(flat l).toArray)::(X++rs)) (IK r M::ss)) (λ_ u _=>k-(intOf u).toNat)
   case atStart=>exact⟨0,[],none,0,FP,rfl,rfl,Lies.nil 1,hm⟩
   case round=>
    clear hm;obtain⟨j,X,a2,c2,hj,rfl,rfl,hX,hm⟩:=hrel;have HX:=aa hX;clear hX;by_cases hlt:j<k
    .have w3:IntKind.i64.wrap ((j:Int)+1)=((j+1:Nat):Int):=by rw[aZ _ FP];push_cast;rfl
     have hjl:j<l.length:=by rw[<-HNL.o];exact hlt
     obtain⟨hf0,hf1⟩:=HFL.o j (by first|exact hlt|exact hjl);have hf2:(flat l).toArray[0+j*2]?=some (Value.int .i64 (gp l j).1):=by rw[dA,jI];exact hf0
     have hf3:(flat l).toArray[0+j*2+1]?=some (.int .i64 (gp l j).2):=by rw[dA,jI];exact hf1
     have hf4:(flat l).toArray[j*2]?=some (.int .i64 (gp l j).1):=by rw[jI];exact hf0
     have hf5:(flat l).toArray[j*2+1]?=some (.int .i64 (gp l j).2):=by rw[jI];exact hf1
     have hmem:gp l j∈l:=kO l j hjl;have hbp:=HB.o (gp l j) hmem;have HK:Hid (∃y,keyOf prog 241 (.agg #[.int .i64 (gp l j).1,.int .i64 (gp l j).2])=some y):=aa (vD (nW hbp.1 hbp.2.1) (nW hbp.2.2.1 hbp.2.2.2));have HIN2:=aa (HIN.o (gp l j) hmem);have HVV2:=aa (HVV.o (gp l j));have HS:Hid (vs .i64 ((aE l).take j)++[.int .i64 (rk l (gp l j):Nat)]=vs .i64 ((aE l).take (j+1))):=aa (by rw[FQ (aE l) j (by rw[iv];exact hjl),<-qy,ki l hjl];rfl);clear hf0 hf1 hmem hbp hjl;generalize rk l (gp l j)=z at*;generalize (gp l j).1=a at*;generalize (gp l j).2=b at*
     go_wp2_with(first
     |with_reducible refine cA (t:=239) ?_;(refine A8 rfl (ix rfl HE239.o rfl rfl rfl hlt) ?_)
     |with_reducible refine bh (t:=241) ?_;(first|refine A8 rfl (jb 0 hm rfl rfl rfl (ag rfl) hf2 hf3) ?_|refine A8 rfl (jb 0 hm rfl rfl rfl (ag rfl) hf4 hf5) ?_|with_reducible refine aM _ 0 hm ?_)
     |with_reducible refine wa 241 hm ry ?_;clear hm;intro w4 g7 hm
     |refine A8 rfl (Ez 0 hm rfl rfl rfl rfl underlying295 rz HK.o HKS.o HIN2.o HVV2.o) ?_
     |refine Ad rfl (JQ hm rfl HL.o (Ac rfl) rfl ?_);clear hm;intro w gb hm
     |(refine Ad rfl (GR (A:=[_,_,_]) (X:=X) hm rfl HE.o (Ac rfl) HX.o (Ac rfl) (λW h=>From.one (h.row 0 rfl)) (tJ rfl) FP FP FP ?_);clear hm;intro X2 v2 w hX2 hm;simp only[s2]at hm;replace hm:=hm.dropRow.dropRow;obtain⟨ad2,c3,rfl⟩:=hX2.shape;have HX2:=aa hX2;clear hX2)
     |refine UV ?_;try(clear hm;intro w gp hm))
     have HX4:Hid (Lies 1 X2 (.slice ad2 (j+1) c3) (j+1) (vs .i64 ((aE l).take (j+1)))):=aa (by rw[<-HS.o];exact HX2.o);clear HX2;go_roundw
     case rel=>exact⟨j+1,X2,ad2,c3,FP,by go_num,rfl,HX4.o,hm⟩
     case measure=>simp[intOf];omega
    .obtain rfl:j=k:=FP
     have HT:Hid ((aE l).take j=aE l):=aa (jC (by rw[iv,<-HNL.o];omega))
     go_wp2_with(first
     |refine A8 rfl (LS 0 hm rfl rfl rfl underlying295) ?_
     |refine UV ?_;try(clear hm;intro w gp hm))
     go_ret2
     exact⟨X,_,by rw[<-HLM.o];rfl,by rw[<-HT.o];exact HX.o,hm.J9⟩
end
open Go Go.RowKit
section
variable{a b:Int}{r:ac}{f i n w:Nat}{o:Oz}{x y:O7}{P:O8}{e t:O4}
def VR(n:Nat)(f:Nat->Pr):List Pr:=(List.range n).map f
def it(f:Nat->Pr):(VR n f).length=n:=by simp[VR]
def GS(f:Nat->Pr)(h:i<n):gp (VR n f) i=f i:=by simp[gp,VR,h]
def pw{f g:Nat->Pr}(h:∀i,i<n->f i=g i):VR n f=VR n g:=zX λi hi=>h i (dS.1 hi)
def AgH(l:List Pr):VR l.length (gp l)=l:=by
 apply qA
 .simp[VR]
 .intro i h1 h2;simp[VR,gp,h2]
def M6(f:Nat->Pr)(v:Pr):(VR n f).set i v=VR n λj=>if j=i then v else f j:=by
 apply lI;intro j;rw[mM];simp only[VR,jH,kX,jT];exact Pk
def I':∀(l:List Pr)(i:Nat)(a:Int),i<l.length->(flat l).set (i*2) (.int .i64 a)=flat (l.set i (a,(gp l i).2))
|[],i,a,h=>by simp at h
|p::l,0,a,_=>by rw[l6];rfl
|p::l,i+1,a,h=>by
  have ih:=I' l i a GU;rw[l6,show(i+1)*2=i*2+1+1 by omega,ku,ku,ih,ku,l6];simp[gp]
def LM:∀(l:List Pr)(i:Nat)(b:Int),i<l.length->(flat l).set (i*2+1) (.int .i64 b)=flat (l.set i ((gp l i).1,b))
|[],i,b,h=>by simp at h
|p::l,0,b,_=>by rw[l6];rfl
|p::l,i+1,b,h=>by
  have ih:=LM l i b GU;rw[l6,show(i+1)*2+1=i*2+1+1+1 by omega,ku,ku,ih,ku,l6];simp[gp]
def M3(l:List Pr)(h:i<l.length):(flat l).toArray.setIfInBounds (i*2) (.int .i64 a)=(flat (l.set i (a,(gp l i).2))).toArray:=by rw[lY,I' l i a h]
def Cw(l:List Pr)(h:i<l.length):(flat l).toArray.setIfInBounds (i*2+1) (.int .i64 b)=(flat (l.set i ((gp l i).1,b))).toArray:=by rw[lY,LM l i b h]
def Wc:madeCells #[Value.int .i64 0,.int .i64 0] (n*2)=(flat (VR n λ_=>(0,0))).toArray:=by
 apply uf
 .rw[size_madeCells,gX,fW,it]
 .intro i h1 h2;rw[size_madeCells]at h1;have h3:=Cg (VR n λ_=>(0,0)) i (by rw[it];exact h1);rw[GS _ FP]at h3;have h4:(flat (VR n λ_=>(0,0))).toArray[i]?=some ((flat (VR n λ_=>(0,0))).toArray[i]):=FB h2;rw[jI,h3]at h4;rw[<-Ea h4];rcases Fh i with e|e<;>simp[madeCells,e,eJ]
def ZR{w:FC}{a:OA}(n:Nat){i:Oy}{bytes:Nat} 
  (ho:o.op=.makeSlice t x y)(he:OW P t e 2 bytes i (.agg #[.int .i64 0,.int .i64 0]))(hx:a.eval x=.int .i64 n)(hy:a.eval y=.int .i64 n)(hb:(bytes:Int)*n<=281474976710656)(hn:(n:Int)<=9223372036854775807):
  (execOp a.eval o).run P w=.ok (.value (.slice (some ⟨w.heap.size,0,none⟩) n n)) (w.alloc (.cells (flat (VR n λ_=>(0,0))).toArray e)):=by
 have hr:=run_make (P:=P) w t e i _ he.under he.info he.zero .i64 .i64 n n FP (jG _) IV hn;unfold execOp;rw[he.size,gB]at hr;simp only[Value.cells]at hr;rw[Wc]at hr;exact sY
def ez(t:ac)(k i:Nat):Pr:=if i<k/\i<t.length then(1+gi t i,0)else(0,0)
def Tv{t:ac}:eS t=VR (t.length+1) (ez t t.length):=by
 apply qA
 .simp[eS,VR]
 .intro i h1 h2;rw[it]at h2;by_cases h:i<t.length
  .simp[eS,VR,ez,h,List.getElem_append,gi]
  .obtain rfl:i=t.length:=FP
   simp[eS,VR,ez]
def d8(r:ac)(w i:Nat):Pr:=(gi r i,if i+w<r.length then gi r (i+w)else-1)
def T':two r w=VR r.length (d8 r w):=rfl
def XX(l:List Pr)(h:¬many l<l.length):go2 f w l=aE l:=by
 cases f with
|zero=>rfl
|succ f=>rw[go2,aP h]
def UO(l:List Pr)(i:Nat):0<=gi (aE l) i/\gi (aE l) i<=l.length:=by
 by_cases h:i<l.length
 .rw[ki l h];have:=Qz (kO l i h);have:=Lo l;omega
 .have:gi (aE l) i=0:=by simp[gi,aE,h]
  omega
end
section
variable{t:ac}{ss:O1}{p q:O9}{rs:ae}{w w0:FC}
def Own.ZT{X:ae}(h:Own w0 w (p::(X++(q::rs))) ss):Own w0 w (p::(X++rs)) ss:=h.sub (jw _ ((aY X).append (lV q rs))) (aY _)
def Qu{v:NY}(hm:Own w0 w rs ss)(hv:∀W,Own w0 W rs ss->In .u8 W v t)(hb:Bytes t)(hn:t.length<=100000):ak 121 #[v] w (rc w0 (eM t) rs ss):=by
 obtain⟨ad,cp,rfl,_⟩:=hv w hm
 have HC:Hid (∀W,Own w0 W rs ss->∀k,k<t.length->∃A,ad=some A/\W.cell? (A.add k)=some (.int .u8 (gi t k))):=λW h k hk=>by
  exact nv
 have CR:Hid (∀(gl:Nat)(l:List Pr)(W:FC)(rt:ae),Own w0 W ((gl,(flat l).toArray)::rt) ss->(∀p∈l,-1<=p.1/\p.1<=2000000/\-1<=p.2/\p.2<=2000000)->l.length=(t.length+1)->ak 165 #[.slice (some ⟨gl,0,none⟩) (t.length+1) (t.length+1)] W λe w'=>∃X v,e=.returned (.tuple #[v,.int .i64 (many l)])/\Lies 1 X v (t.length+1) (vs .i64 (aE l))/\Own w0 w' ((gl,(flat l).toArray)::(X++rt)) ss):=λgl l W rt h h1 h2=>by
  have:=Adw l h h1 FP FP;rw[h2]at this;exact this
 obtain⟨i1,hE1⟩:=xC;have HE239:=aa hE1;obtain⟨i2,hE2⟩:=wM;have HE:=aa hE2;obtain⟨i3,hE3⟩:=Md;have HB5:=aa hE3;have HB:=aa hb;have HST:Hid (ey t 1 (eS t)):=aa (ey.first λx hx=>(hb x hx).1);have HNX:Hid (∀wd l,ey t wd l->ey t (wd*2) (two (aE l) wd)):=λwd l h=>h.next λx hx=>(hb x hx).1;have HDN:Hid (∀wd l,ey t wd l->t.length<wd->many l=l.length):=λwd l h h2=>h.done (λx hx=>(hb x hx).1) h2;have wlx:IntKind.i64.wrap ((t.length:Int)+1)=(((t.length+1):Nat):Int):=by rw[aZ _ FP];push_cast;rfl
 obtain⟨o,ho⟩:∃o,o=eM t:=⟨_,rfl⟩;rw[<-ho];have HO:Hid (o=go2 (t.length+1) 1 (eS t)):=aa ho;clear hE1 hE2 hE3 hb hv ho;go_enter func121,ntmps121
 go_wp2_with(first
 |with_reducible refine tk (t:=239) ?_;(refine A8 rfl (ZR (t.length+1) rfl HE239.o rfl rfl FP FP) ?_;have hm1:=hm.alloc (flat (VR (t.length+1) λ_=>(0,0))).toArray 241;clear hm;have hm:=hm1;clear hm1;generalize hgl:w.heap.size=gl at hm⊢;generalize hw2:World.alloc w _=w2 at hm⊢))
 have hm0:Own w0 w2 ((gl,(flat (VR (t.length+1) (ez t 0))).toArray)::rs) ss:=by
  rw[pw (f:=ez t 0) (g:=λ_=>(0,0)) (λi _=>by rw[ez,aP FP])];exact hm
 clear hm;have hm:=hm0;clear hm0
 go_loopw[16] (λu wr=>∃k:Nat,k<=t.length/\u=.int .i64 k/\Own w0 wr ((gl,(flat (VR (t.length+1) (ez t k))).toArray)::rs) ss) (λu _=>t.length-(intOf u).toNat)
 case atStart=>exact⟨0,FP,rfl,hm⟩
 case round=>
  clear hm;obtain⟨k,hk,rfl,hm⟩:=hrel;by_cases hlt:k<t.length
  .have hs:=HB.o (gi t k) (by rw[BZ t k hlt];exact dF _);obtain⟨A,rfl,hA0⟩:=HC.o _ hm.dropRow k hlt;obtain⟨x,hx⟩:=dB hs.1;have hcell:wr.cell? (A.add k)=some (.int .u8 x):=by rw[<-hx];exact hA0
   have hx1:x<256:=FP
   have hlt1:k<(t.length+1):=FP
   have w1:IntKind.i64.wrap (x:Int)=x:=av;have w2':IntKind.i64.wrap (1+(x:Int))=1+(x:Int):=av;have w3:IntKind.i64.wrap ((k:Int)+1)=((k+1:Nat):Int):=by rw[aZ _ FP];push_cast;rfl
   have hP:(flat (VR (t.length+1) (ez t k))).toArray.setIfInBounds (k*2) (.int .i64 (1+(x:Int)))=(flat (VR (t.length+1) (ez t (k+1)))).toArray:=by
    rw[M3 _ (by rw[it];exact hlt1),GS _ hlt1,M6,pw (g:=ez t (k+1)) (λj _=>by
     by_cases e:j=k
     .subst e;rw[aQ rfl,ez,ez,aP FP,aQ FP,hx]
     .rw[aP e,ez,ez];by_cases e2:j<k/\j<t.length
      .rw[aQ e2,aQ FP]
      .rw[aP e2,aP FP])]
   have HP:=aa hP;have HP0:Hid ((flat (VR (t.length+1) (ez t k))).toArray.setIfInBounds (0+k*2) (.int .i64 (1+(x:Int)))=(flat (VR (t.length+1) (ez t (k+1)))).toArray):=aa (by rw[dA];exact hP);have HSZ:Hid (k*2<(flat (VR (t.length+1) (ez t k))).toArray.size):=aa (by rw[gX,fW,it];omega);have HSZ0:Hid (0+k*2<(flat (VR (t.length+1) (ez t k))).toArray.size):=aa KP;clear hA0 hs hx hP;generalize (flat (VR (t.length+1) (ez t k))).toArray=T1 at*;generalize hT2:(flat (VR (t.length+1) (ez t (k+1)))).toArray=T2 at*
   go_wp2_with(first
    |with_reducible refine cA (t:=22) ?_;(refine A8 rfl (Am rfl HB5.o rfl rfl rfl hlt) ?_)
    |with_reducible refine bh (t:=5) ?_;(refine A8 rfl (AU rfl rfl FV hcell) ?_)
    |with_reducible refine cA (t:=239) ?_;(refine A8 rfl (ix rfl HE239.o rfl rfl rfl hlt1) ?_)
    |with_reducible refine wc 3 0 hm ?_ (hf:=LJ) (hn:=LK);clear hm;intro w hm)
   exact qf
  .obtain rfl:t.length=k:=FP
   have hm0:Own w0 wr ((gl,(flat (eS t)).toArray)::rs) ss:=by rw[Tv];exact hm
   clear hm;have hm:=hm0;clear hm0;have HLB:Hid ((eS t).length=(t.length+1)):=aa HST.o.len
   have HBB:Hid (∀p∈eS t,-1<=p.1/\p.1<=2000000/\-1<=p.2/\p.2<=2000000):=λp hp=>by
    rw[eS]at hp;rcases dG.1 hp with hp|hp
    .obtain⟨c,hc,rfl⟩:=eX.1 hp;have:=HB.o c hc;simp only;omega
    .obtain rfl:=fC.1 hp;simp
   clear hlt hk
   go_wp2_with(first
    |(go_at_call 165;have _t:=hm;refine(CR.o _ _ _ _ hm HBB.o HLB.o).mono ?_;clear _t;clear hm;rintro e w3⟨X1,v1,rfl,hX,hm⟩;have HX1:=aa hX;clear hX))
   obtain⟨a1,c1,rfl⟩:=HX1.o.shape
   go_loopw[6,7,8] (λz y u wr=>∃(f wd:Nat)(l:List Pr)(X:ae)(a2:Ov)(c2:Nat),1<=wd/\wd<=2*t.length+1/\t.length<wd+f/\ey t wd l/\o=go2 f wd l/\u=.int .i64 wd/\y=.int .i64 (many l)/\z=.slice a2 (t.length+1) c2/\Lies 1 X z (t.length+1) (vs .i64 (aE l))/\Own w0 wr ((gl,(flat l).toArray)::(X++rs)) ss) (λ_ _ u _=>2*t.length+2-(intOf u).toNat)
   case atStart=>exact⟨t.length+1,1,eS t,X1,a1,c1,FP,FP,FP,HST.o,HO.o,rfl,rfl,rfl,HX1.o,hm⟩
   case round=>
    clear hm HX1;obtain⟨f,wd,l,X,a2,c2,h1,h2,h3,hst,ho,rfl,rfl,rfl,hX,hm⟩:=hrel;have hll:=hst.len;by_cases hlt:many l<(t.length+1)
    .have q0:decide ((many l:Int)<(((t.length+1):Nat):Int))=true:=az;have q0b:decide ((many l:Int)<(t.length:Int)+1)=true:=az;have q0c:decide (many l<(t.length+1))=true:=aW hlt
     have hwd:wd<=t.length:=by
      rcases bF t.length wd with h|h
      .have:=HDN.o wd l hst h;omega
      .exact h
     obtain⟨f,rfl⟩:∃f',f=f'+1:=⟨f-1,FP⟩;have HN:Hid (o=go2 f (wd*2) (two (aE l) wd)):=aa (by rw[ho,go2,aQ FP]);have HS2:=aa (HNX.o wd l hst);obtain⟨gx,px,cx,cellsx,rfl,he,hcx,_,_,hcells⟩:=hX.pos FP;cases he
     have HGR:Hid (∀i,i<(t.length+1)->cellsx[px+i]?=some (.int .i64 (gi (aE l) i))):=λi hi=>by
      rw[hcells i (by rw[Ai,iv,hll];exact hi),Fg _ _ i (by rw[iv,hll];exact hi)]
     have HRL:Hid ((aE l).length=(t.length+1)):=aa (by rw[iv,hll]);have HRB:=aa (UO l);have HLL:=aa hll;have wsh:IntKind.i64.wrap ((wd:Int)*2)=((wd*2:Nat):Int):=by rw[aZ _ FP];push_cast;rfl
     have hm0:Own w0 wr ((gl,(flat (VR (t.length+1) (λj=>if j<0 then d8 (aE l) wd j else gp l j))).toArray)::(gx,cellsx)::rs) ss:=by
      rw[pw (g:=gp l) (λj _=>by rw[aP FP]),<-hll,AgH];exact hm
     clear hm hX hcells ho hst hll;have hm:=hm0;clear hm0;go_wp2
     go_loopw[42] (λu wr=>∃i:Nat,i<=(t.length+1)/\u=.int .i64 i/\Own w0 wr ((gl,(flat (VR (t.length+1) (λj=>if j<i then d8 (aE l) wd j else gp l j))).toArray)::(gx,cellsx)::rs) ss) (λu _=>(t.length+1)-(intOf u).toNat)
     case atStart=>exact⟨0,FP,rfl,hm⟩
     case round=>
      clear hm;obtain⟨i,hi,rfl,hm⟩:=hrel;by_cases hil:i<(t.length+1)
      .have p0:decide ((i:Int)<(((t.length+1):Nat):Int))=true:=az;have p0b:decide ((i:Int)<(t.length:Int)+1)=true:=az;have p0c:decide (i<(t.length+1))=true:=aW hil;have w3:IntKind.i64.wrap ((i:Int)+1)=((i+1:Nat):Int):=by rw[aZ _ FP];push_cast;rfl
       have w4:IntKind.i64.wrap ((i:Int)+(wd:Int))=((i+wd:Nat):Int):=by rw[aZ _ FP];push_cast;rfl
       have HG:=aa (HGR.o i hil)
       have HPUT:Hid (∀b,puts (flat (VR (t.length+1) (λj=>if j<i then d8 (aE l) wd j else gp l j))).toArray (i*2) [.int .i64 (gi (aE l) i),.int .i64 b]=(flat ((VR (t.length+1) (λj=>if j<i then d8 (aE l) wd j else gp l j)).set i (gi (aE l) i,b))).toArray):=λb=>by
        simp only[puts];rw[M3 _ (by rw[it];exact hil),Cw _ (by rw[cO,it];exact hil),qG]
        congr 2
        simp[gp,hil,it]
       have HPN:Hid (∀b,b=(d8 (aE l) wd i).2->(VR (t.length+1) (λj=>if j<i then d8 (aE l) wd j else gp l j)).set i (gi (aE l) i,b)=VR (t.length+1) (λj=>if j<i+1 then d8 (aE l) wd j else gp l j)):=λb hb=>by
        rw[M6];refine pw λj _=>?_;by_cases e:j=i
        .subst e;rw[aQ rfl,aQ FP,hb];rfl
        .rw[aP e];by_cases e2:j<i
         .rw[aQ e2,aQ FP]
         .rw[aP e2,aP FP]
       have HPUT0:Hid (puts (flat (VR (t.length+1) (λj=>if j<i then d8 (aE l) wd j else gp l j))).toArray (0+i*2) [.int .i64 (gi (aE l) i),.int .i64 (-1)]=(flat ((VR (t.length+1) (λj=>if j<i then d8 (aE l) wd j else gp l j)).set i (gi (aE l) i,-1))).toArray):=aa (by rw[dA];exact HPUT.o (-1));have HPUT1:=aa (HPUT.o (-1));have HSZ:Hid (i*2+2<=(flat (VR (t.length+1) (λj=>if j<i then d8 (aE l) wd j else gp l j))).toArray.size):=aa (by rw[gX,fW,it];omega);have HSZ0:Hid (0+i*2+2<=(flat (VR (t.length+1) (λj=>if j<i then d8 (aE l) wd j else gp l j))).toArray.size):=aa KP;by_cases hin:i+wd<(t.length+1)
       .have s0:decide (((i+wd:Nat):Int)<(((t.length+1):Nat):Int))=true:=az;have s0b:decide ((i:Int)+(wd:Int)<(t.length:Int)+1)=true:=az;have s0c:decide (i+wd<(t.length+1))=true:=aW hin;have HG2:=aa (HGR.o (i+wd) hin)
        have HP2:Hid ((flat ((VR (t.length+1) (λj=>if j<i then d8 (aE l) wd j else gp l j)).set i (gi (aE l) i,-1))).toArray.setIfInBounds (i*2+1) (.int .i64 (gi (aE l) (i+wd)))=(flat (VR (t.length+1) (λj=>if j<i+1 then d8 (aE l) wd j else gp l j))).toArray):=aa (by
         rw[Cw _ (by rw[cO,it];exact hil),qG,<-HPN.o (gi (aE l) (i+wd)) (by rw[d8,HRL.o,aQ hin])]
         congr 2
         simp[gp,hil,it])
        have HP20:Hid ((flat ((VR (t.length+1) (λj=>if j<i then d8 (aE l) wd j else gp l j)).set i (gi (aE l) i,-1))).toArray.setIfInBounds (0+i*2+1) (.int .i64 (gi (aE l) (i+wd)))=(flat (VR (t.length+1) (λj=>if j<i+1 then d8 (aE l) wd j else gp l j))).toArray):=aa (by rw[dA];exact HP2.o);have HZ2:Hid (i*2+1<(flat ((VR (t.length+1) (λj=>if j<i then d8 (aE l) wd j else gp l j)).set i (gi (aE l) i,-1))).toArray.size):=aa (by rw[gX,fW,cO,it];omega);have HZ20:Hid (0+i*2+1<(flat ((VR (t.length+1) (λj=>if j<i then d8 (aE l) wd j else gp l j)).set i (gi (aE l) i,-1))).toArray.size):=aa (by rw[dA];exact HZ2.o);clear HPN HPUT;generalize (flat (VR (t.length+1) (λj=>if j<i then d8 (aE l) wd j else gp l j))).toArray=T1 at*
        generalize (flat ((VR (t.length+1) (λj=>if j<i then d8 (aE l) wd j else gp l j)).set i (gi (aE l) i,-1))).toArray=T2 at*;generalize hT3:(flat (VR (t.length+1) (λj=>if j<i+1 then d8 (aE l) wd j else gp l j))).toArray=T3 at*;generalize gi (aE l) i=a at*;generalize gi (aE l) (i+wd)=b at*
        go_wp2_with(first
         |with_reducible refine cA (t:=124) ?_;(first|refine A8 rfl (db (k:=i) rfl HE.o rfl rfl rfl hil) ?_|refine A8 rfl (db (k:=i+wd) rfl HE.o rfl rfl rfl hin) ?_)
         |with_reducible refine cA (t:=239) ?_;(refine A8 rfl (ix (k:=i) rfl HE239.o rfl rfl rfl hil) ?_)
         |with_reducible refine wl 3 1 hm ?_ (hv:=MB)
         |with_reducible refine bE (t:=241) ?_;(refine Ad rfl (sn 0 hm (vs:=[.int .i64 a,.int .i64 (-1)]) rfl rfl (Ac rfl) rfl (ag rfl) MC rfl ?_);clear hm;intro w5 hm;simp only[List.set]at hm;first|rw[HPUT1.o]at hm|rw[HPUT0.o]at hm)
         |with_reducible refine wc 3 0 hm ?_ (hf:=(by with_unfolding_all (first|exact HZ2.o|exact HZ20.o))) (hn:=(by with_unfolding_all (first|exact HP2.o|exact HP20.o)));clear hm;intro w hm)
        go_roundw
        case rel=>exact⟨i+1,FP,by go_num,by rw[hT3];exact hm⟩
        case measure=>simp[intOf];omega
       .have s0:decide (((i+wd:Nat):Int)<(((t.length+1):Nat):Int))=false:=an;have s0b:decide ((i:Int)+(wd:Int)<(t.length:Int)+1)=false:=an;have s0c:decide (i+wd<(t.length+1))=false:=aU hin;have HP2:Hid ((flat ((VR (t.length+1) (λj=>if j<i then d8 (aE l) wd j else gp l j)).set i (gi (aE l) i,-1))).toArray=(flat (VR (t.length+1) (λj=>if j<i+1 then d8 (aE l) wd j else gp l j))).toArray):=aa (by rw[HPN.o (-1) (by rw[d8,HRL.o,aP hin])]);clear HPN HPUT;generalize (flat (VR (t.length+1) (λj=>if j<i then d8 (aE l) wd j else gp l j))).toArray=T1 at*;generalize (flat ((VR (t.length+1) (λj=>if j<i then d8 (aE l) wd j else gp l j)).set i (gi (aE l) i,-1))).toArray=T2 at*;generalize hT3:(flat (VR (t.length+1) (λj=>if j<i+1 then d8 (aE l) wd j else gp l j))).toArray=T3 at*
        generalize gi (aE l) i=a at*
        go_wp2_with(first
         |with_reducible refine cA (t:=124) ?_;(refine A8 rfl (db (k:=i) rfl HE.o rfl rfl rfl hil) ?_)
         |with_reducible refine cA (t:=239) ?_;(refine A8 rfl (ix (k:=i) rfl HE239.o rfl rfl rfl hil) ?_)
         |with_reducible refine wl 3 1 hm ?_ (hv:=al HG.o)
         |with_reducible refine bE (t:=241) ?_;(refine Ad rfl (sn 0 hm (vs:=[.int .i64 a,.int .i64 (-1)]) rfl rfl (Ac rfl) rfl (ag rfl) MC rfl ?_);clear hm;intro w5 hm;simp only[List.set]at hm;first|rw[HPUT1.o]at hm|rw[HPUT0.o]at hm))
        go_roundw
        case rel=>exact⟨i+1,FP,by go_num,by rw[hT3,<-HP2.o];exact hm⟩
        case measure=>simp[intOf];omega
      .obtain rfl:i=(t.length+1):=FP
       have p0:decide ((((t.length+1):Nat):Int)<(((t.length+1):Nat):Int))=false:=an;have p0b:decide ((t.length:Int)+1<(t.length:Int)+1)=false:=an
       have hm0:Own w0 wr ((gl,(flat (two (aE l) wd)).toArray)::(gx,cellsx)::rs) ss:=by
        rw[T',HRL.o,<-pw (f:=λj=>if j<(t.length+1)then d8 (aE l) wd j else gp l j) (λj hj=>by rw[aQ hj])];exact hm
       have HBL:Hid ((two (aE l) wd).length=(t.length+1)):=aa (by rw[K5];exact HRL.o)
       have HBT:Hid (∀p∈two (aE l) wd,-1<=p.1/\p.1<=2000000/\-1<=p.2/\p.2<=2000000):=λp hp=>by
        obtain⟨j,_,rfl⟩:=eX.1 hp;have b1:=HRB.o j;have b2:=HRB.o (j+wd);have:=HLL.o;simp only;split<;>omega
       clear hm hil hi;have hm:=hm0;clear hm0
       go_wp2_with(first
        |(go_at_call 165;have _t:=hm;refine(CR.o _ _ _ _ hm HBT.o HBL.o).mono ?_;clear _t;clear hm;rintro e w3⟨X3,v3,rfl,hX,hm⟩;have HX3:=aa hX;clear hX;replace hm:=hm.ZT))
       obtain⟨a3,c3,rfl⟩:=HX3.o.shape;go_roundw
       case rel=>exact⟨f,wd*2,two (aE l) wd,X3,a3,c3,FP,FP,FP,HS2.o,HN.o,by go_num,rfl,rfl,HX3.o,hm⟩
       case measure=>simp[intOf];omega
    .have q0:decide ((many l:Int)<(((t.length+1):Nat):Int))=false:=an;have q0b:decide ((many l:Int)<(t.length:Int)+1)=false:=an;have q0c:decide (many l<(t.length+1))=false:=aU hlt;have HN:Hid (o=aE l):=aa (by rw[ho,XX _ FP]);have HX:=aa hX;have HLL:=aa hll;clear hX ho hst hll;go_wp2;go_ret;exact⟨X,_,rfl,by rw[HN.o,iv,HLL.o];exact HX.o,hm.dropRow⟩
end
def Ahn{n:Nat}:(List.replicate n (Value.int .i64 0)).toArray=J .i64 (List.replicate n 0):=by simp[J,vs]
def Wg{v:NY}{t:ac}{w0 w:FC}{rs:ae}{ss:O1}(hm:Own w0 w rs ss)(hv:∀W,Own w0 W rs ss->In .u8 W v t)(hb:Bytes t)(hn:t.length<=100000):ak 75 #[v] w (rc w0 (dz (eM t)) rs ss):=by
 have CR:Hid (∀W,Own w0 W rs ss->ak 121 #[v] W (rc w0 (eM t) rs ss)):=λW h=>Qu h hv hb hn;have hR:=yo (t:=t) λx hx=>(hb x hx).1;have HRL:Hid ((eM t).length=(t.length+1)):=aa hR.len;have HRB:Hid (∀i,i<=t.length->0<=gi (eM t) i/\gi (eM t) i<=t.length):=λi hi=>⟨hR.low i hi,hR.high hi⟩;obtain⟨ad,cp,rfl,_⟩:=hv w hm
 have HC:Hid (∀W,Own w0 W rs ss->∀k,k<t.length->∃A,ad=some A/\W.cell? (A.add k)=some (.int .u8 (gi t k))):=λW h k hk=>by
  exact nv
 obtain⟨i2,hE2⟩:=wM;have HE:=aa hE2;obtain⟨i3,hE3⟩:=nR;have HL:=aa hE3;clear hE2 hE3 hb hv hR HC;generalize eM t=r at*;go_enter func75,ntmps75
 go_wp2_with(first
 |(go_at_call 121;have _t:=hm;refine(CR.o _ hm).mono ?_;clear _t;clear hm;rintro e w1⟨X,v1,rfl,hX,hm⟩;rw[HRL.o]at hX;obtain⟨gx,px,cx,cellsx,rfl,rfl,hcx,_,hxl,hcells⟩:=hX.pos FP;have HGR:Hid (∀i,i<(t.length+1)->cellsx[px+i]?=some (.int .i64 (gi r i))):=λi hi=>(by rw[hcells i (by rw[Ai,HRL.o];exact hi),Fg _ _ i (by rw[HRL.o];exact hi)]);clear hX hcells hxl hcx)
 |with_reducible refine tk (t:=124) ?_;(refine Me (t.length+1) hm rfl rfl HL.o rfl rfl FP FP ?_;clear hm;intro w2 g hm))
 have hm0:Own w0 w2 ((g,J .i64 (eI r 0))::(gx,cellsx)::rs) ss:=by
  rw[eI,HRL.o,<-Ahn];exact hm
 clear hm;have hm:=hm0;clear hm0
 go_loopw[14] (λu wr=>∃k:Nat,k<=(t.length+1)/\u=.int .i64 k/\Own w0 wr ((g,J .i64 (eI r k))::(gx,cellsx)::rs) ss) (λu _=>(t.length+1)-(intOf u).toNat)
 case atStart=>exact⟨0,FP,rfl,hm⟩
 case round=>
  clear hm;obtain⟨k,hk,rfl,hm⟩:=hrel;by_cases hlt:k<(t.length+1)
  .have p0:decide ((k:Int)<(((t.length+1):Nat):Int))=true:=az;have p0b:decide ((k:Int)<(t.length:Int)+1)=true:=az;have p0c:decide (k<(t.length+1))=true:=aW hlt;have w3:IntKind.i64.wrap ((k:Int)+1)=((k+1:Nat):Int):=by rw[aZ _ FP];push_cast;rfl
   have hbd:=HRB.o k FP;obtain⟨q,hq⟩:=dB hbd.1;have hql:q<(t.length+1):=FP
   have HG:Hid (cellsx[px+k]?=some (.int .i64 q)):=aa (by rw[<-hq];exact HGR.o k hlt);have HP:Hid ((J .i64 (eI r k)).setIfInBounds q (.int .i64 k)=J .i64 (eI r (k+1))):=aa (by rw[Y0,eI,hq,gB]);have HP0:Hid ((J .i64 (eI r k)).setIfInBounds (0+q) (.int .i64 k)=J .i64 (eI r (k+1))):=aa (by rw[dA];exact HP.o);have HSZ:Hid (q<(J .i64 (eI r k)).size):=aa (by rw[Df,oV,HRL.o];exact hql);have HSZ0:Hid (0+q<(J .i64 (eI r k)).size):=aa KP;clear hbd hq;generalize hT2:J .i64 (eI r (k+1))=T2 at*;generalize J .i64 (eI r k)=T1 at*
   go_wp2_with(first
    |with_reducible refine cA (t:=124) ?_;(first|refine A8 rfl (db (k:=k) rfl HE.o rfl rfl rfl hlt) ?_|refine A8 rfl (db (k:=q) rfl HE.o rfl rfl rfl hql) ?_)
    |with_reducible refine wl 3 1 hm ?_ (hv:=al HG.o)
    |with_reducible refine wc 3 0 hm ?_ (hf:=LJ) (hn:=LK);clear hm;intro w hm)
   exact qf
  .obtain rfl:k=(t.length+1):=FP
   have p0:decide ((((t.length+1):Nat):Int)<(((t.length+1):Nat):Int))=false:=an;have p0b:decide ((t.length:Int)+1<(t.length:Int)+1)=false:=an;have HJ:Hid (eI r (t.length+1)=dz r):=aa (by rw[dz,HRL.o]);have HLO:Hid ((dz r).length=(t.length+1)):=aa (by rw[dz,oV,HRL.o]);go_wp2;go_ret;refine⟨[(g,J .i64 (dz r))],_,rfl,?_,?_⟩
   .rw[HLO.o];exact Lies.whole (by rw[Ai,HLO.o,kQ])
   .rw[<-HJ.o];exact hm.sub (jw _ (lV _ _)) (aY _)
def Af8{v:NY}{t:ac}{w0 w:FC}(rs:ae)(ss:O1)(hm:Own w0 w rs ss)(hv:∀W,Own w0 W rs ss->In .u8 W v t)(hb:Bytes t)(hn:t.length<=100000):ak 32 #[v] w λe w'=>∃X v2,e=.returned (.tuple #[v2,.int .i64 (xm t)])/\Lies 1 X v2 t.length (vs .u8 (pc t))/\Own w0 w' (X++rs) ss:=by
 have CO:Hid (∀W,Own w0 W rs ss->ak 75 #[v] W (rc w0 (dz (eM t)) rs ss)):=λW h=>Wg h hv hb hn;have hR:=yo (t:=t) λx hx=>(hb x hx).1;have HLO:Hid ((dz (eM t)).length=(t.length+1)):=aa (by rw[dz,oV,hR.len]);have HOB:Hid (∀i,i<=t.length->0<=gi (dz (eM t)) i/\gi (dz (eM t)) i<=t.length):=λi hi=>hR.AeQ hi
 have HLL:Hid (∀k,k<=(t.length+1)->(lstk t (dz (eM t)) k).length<=k):=λk hk=>by
  rw[hR.zd k hk];split<;>omega
 have HLN:Hid ((lstk t (dz (eM t)) (t.length+1)).length=t.length):=aa (UT λx hx=>(hb x hx).1);obtain⟨ad,cp,rfl,_⟩:=hv w hm
 have HC:Hid (∀W,Own w0 W rs ss->∀k,k<t.length->∃A,ad=some A/\W.cell? (A.add k)=some (.int .u8 (gi t k))):=λW h k hk=>by
  exact nv
 obtain⟨i2,hE2⟩:=wM;have HE:=aa hE2;obtain⟨i3,hE3⟩:=nP;have HE22:=aa hE3;obtain⟨i4,hE4⟩:=Md;have HB5:=aa hE4;clear hE2 hE3 hE4 hb hv hR;simp only[xm,pc];generalize dz (eM t)=o at*;go_enter func32,ntmps32
 go_wp2_with(first
 |(go_at_call 75;have _t:=hm;refine(CO.o _ hm).mono ?_;clear _t;clear hm;rintro e w1⟨X,v1,rfl,hX,hm⟩;rw[HLO.o]at hX;obtain⟨gx,px,cx,cellsx,rfl,rfl,hcx,_,hxl,hcells⟩:=hX.pos FP;have HGR:Hid (∀i,i<(t.length+1)->cellsx[px+i]?=some (.int .i64 (gi o i))):=λi hi=>(by rw[hcells i (by rw[Ai,HLO.o];exact hi),Fg _ _ i (by rw[HLO.o];exact hi)]);clear hX hcells hxl hcx))
 go_loopw[2,3,9] (λz y u wr=>∃(k:Nat)(X:ae)(a2:Ov)(c2:Nat),k<=(t.length+1)/\u=.int .i64 k/\y=.int .i64 (jj o k)/\z=.slice a2 (lstk t o k).length c2/\Lies 1 X z (lstk t o k).length (vs .u8 (lstk t o k))/\Own w0 wr ((gx,cellsx)::(X++rs)) ss) (λ_ _ u _=>(t.length+1)-(intOf u).toNat)
 case atStart=>exact⟨0,[],none,0,FP,rfl,rfl,rfl,Lies.nil 1,hm⟩
 case round=>
  clear hm;obtain⟨k,X,a2,c2,hk,rfl,rfl,rfl,hX,hm⟩:=hrel;have HX:=aa hX;clear hX;by_cases hlt:k<(t.length+1)
  .have p0:decide ((k:Int)<(((t.length+1):Nat):Int))=true:=az;have p0b:decide ((k:Int)<(t.length:Int)+1)=true:=az;have p0c:decide (k<(t.length+1))=true:=aW hlt;have w3:IntKind.i64.wrap ((k:Int)+1)=((k+1:Nat):Int):=by rw[aZ _ FP];push_cast;rfl
   have hbd:=HOB.o k FP;have hll:=HLL.o k FP;obtain⟨q,hq⟩:=dB hbd.1;have HG:Hid (cellsx[px+k]?=some (.int .i64 q)):=aa (by rw[<-hq];exact HGR.o k hlt);rcases q with _|q
   .have HN:Hid (lstk t o (k+1)=lstk t o k/\jj o (k+1)=k):=aa ⟨by rw[lstk,aQ (by rw[hq];rfl)],by rw[jj,aQ (by rw[hq];rfl)]⟩;clear hbd hq hll;generalize hL:lstk t o k=L at*;generalize (jj o k)=zx at*
    go_wp2_with(first
     |with_reducible refine cA (t:=124) ?_;(refine A8 rfl (db (k:=k) rfl HE.o rfl rfl rfl hlt) ?_)
     |with_reducible refine wl 3 0 hm ?_ (hv:=al HG.o))
    go_roundw
    case rel=>exact⟨k+1,X,a2,c2,FP,by go_num,by rw[HN.o.2],by rw[HN.o.1],by rw[HN.o.1];exact HX.o,hm⟩
    case measure=>simp[intOf];omega
   .have HN:Hid (lstk t o (k+1)=lstk t o k++[gi t q]/\jj o (k+1)=jj o k):=aa ⟨by rw[lstk,aP FP,hq,show(((q+1:Nat):Int)-1).toNat=q by omega],by rw[jj,aP FP]⟩;have hql:q<t.length:=FP
    obtain⟨A,rfl,hA0⟩:=HC.o _ hm.dropRow.behind q hql;have hcell:wr.cell? (A.add q)=some (.int .u8 (gi t q)):=hA0;have w5:IntKind.i64.wrap (((q+1:Nat):Int)-1)=q:=by rw[aZ _ FP];omega
    have w5b:IntKind.i64.wrap ((q:Int)+1-1)=q:=by rw[aZ _ FP];omega
    have q7:(((q+1:Nat):Int)==0)=false:=by rw[lH];omega
    have q7b:((q:Int)+1==0)=false:=by rw[lH];omega
    clear hbd hq hA0;generalize gi t q=x at*;generalize hL:lstk t o k=L at*;generalize (jj o k)=zx at*
    go_wp2_with(first
     |with_reducible refine cA (t:=124) ?_;(refine A8 rfl (db (k:=k) rfl HE.o rfl rfl rfl hlt) ?_)
     |with_reducible refine wl 3 0 hm ?_ (hv:=al HG.o)
     |with_reducible refine cA (t:=22) ?_;(refine A8 rfl (Am (k:=q) rfl HB5.o rfl rfl rfl hql) ?_)
     |with_reducible refine bh (t:=5) ?_;(refine A8 rfl (AU rfl rfl FV hcell) ?_)
     |refine Ad rfl (JQ hm rfl HB5.o (Ac rfl) rfl ?_);clear hm;intro w gb hm
     |(refine Ad rfl (GR (A:=[_,_]) (X:=X) hm rfl HE22.o (Ac rfl) HX.o (Ac rfl) (λW h=>From.one (h.row 0 rfl)) (tJ rfl) FP FP FP ?_);clear hm;intro X2 v2 w hX2 hm;simp only[s2]at hm;replace hm:=hm.dropRow;obtain⟨ad2,c3,rfl⟩:=hX2.shape;have HX2:=aa hX2;clear hX2))
    have HX4:Hid (Lies 1 X2 (.slice ad2 (L.length+1) c3) (L.length+1) (vs .u8 (L++[x]))):=aa (by rw[<-qy];exact HX2.o);clear HX2;go_roundw
    case rel=>exact⟨k+1,X2,ad2,c3,FP,by go_num,by rw[HN.o.2],by rw[HN.o.1,aV,rU],by rw[HN.o.1,aV,rU];exact HX4.o,hm⟩
    case measure=>simp[intOf];omega
  .obtain rfl:k=(t.length+1):=FP
   have p0:decide ((((t.length+1):Nat):Int)<(((t.length+1):Nat):Int))=false:=an;have p0b:decide ((t.length:Int)+1<(t.length:Int)+1)=false:=an;go_wp2
   go_ret2
   exact⟨X,_,rfl,by have:=HX.o;rw[HLN.o]at this;rw[HLN.o];exact this,hm.dropRow⟩
end Go.Proofs.YtkpbhdhkdonghaaGreat
