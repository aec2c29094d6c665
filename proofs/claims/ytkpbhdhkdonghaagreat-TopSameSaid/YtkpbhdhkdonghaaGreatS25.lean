/- Part 25 of the proof. -/
import Derived.Test.YtkpbhdhkdonghaaGreatS22
import Derived.Test.YtkpbhdhkdonghaaGreatS24
set_option linter.all false
set_option maxHeartbeats 4000000
set_option maxRecDepth 100000
namespace Go.Proofs.YtkpbhdhkdonghaaGreat
open Go Tryz Go.RowKit
section
variable{a:OA}{bud e1 kd m1 md mo p1 peak s1:Int}{l:ac}{ss:O1}{C:ar}{g ga gd gx k live mk n:Nat}{o:Oz}{x:O7}{P:O8}{rs:ae}{e t:O4}{i:Oy}{bv pp pr sv u z:NY}{w w0:FC}
def BC:∀{l:ac},Bytes l->∀(o n:Nat),Bytes (zeroAt l o n)
|l,h,o,0=>h
|l,h,o,n+1=>BC (l:=l.set o 0) (λx hx=>by
  rcases kV hx with h1|rfl
  .exact h x h1
  .decide) (o+1) n
def A4s{bytes:Nat}(ho:o.op=.buildSlice t 1 #[(0,x)])(he:OW P t e 2 bytes i z){v:NY}(hx:a.eval x=.agg #[u,v])(hu:u.cells=#[u])(hv:v.cells=#[v]):
  (execOp a.eval o).run P w=.ok (.value (.slice (some ⟨w.heap.size,0,none⟩) 1 1)) (w.alloc (.cells #[u,v] e)):=by
 have hz:(zeroValue e).run P w=.ok z w:=by simp[zeroValue,typeInfo,he.info,he.zero]
 have hs:=he.zs;unfold execOp;simp only[ho,Instr.buildSlice,aL,bL he.under,aS,sizeOf,typeInfo,jL,he.info,cM,bT,bZ,hx];have hr:Array.range 2=#[0,1]:=FU
 exact B5
def pT{K:Value->FC->Prop}(hm:Own w0 w rs ss){bytes:Nat}(ho:o.op=.buildSlice t 1 #[(0,x)])(he:OW P t e 2 bytes i z){v:NY}(hx:a.eval x=.agg #[u,v])(hu:u.cells=#[u])(hv:v.cells=#[v])
  (h:∀w' g,Own w0 w' ((g,#[u,v])::rs) ss->K (.slice (some ⟨g,0,none⟩) 1 1) w'):Eff P o a w K:=
 Eff.val (A4s ho he hx hu hv) (h _ _ (hm.alloc #[u,v] e))
def oR{v:NY}(hu:u.oneCell'=true)(hv:v.oneCell'=true):∀x∈[u,v],x.oneCell'=true:=λx hx=>by
 rcases dh.1 hx with rfl|hx
 .exact hu
 .rw[fC.1 hx];exact hv
def From.two{v:NY}(h:AA w g #[u,v]):From 2 w (.slice g 1 1) 1 [u,v]:=by
 refine⟨rfl,.inr ⟨_,_,rfl,λj x hj=>?_⟩⟩;rw[fQ,dA,h.cell j]
 match j,hj with
|0,hj=>simpa using hj
|1,hj=>simpa using hj
def Lg(live n:Nat)(hm:Own w0 w ((ga,AR (.slice gx l.length l.length) live peak)::(gx,B l)::rs) ss)(h2:live+n<=l.length)(h3:l.length<=1048576)(hb:Bytes l):ak 23 #[ga,.int .i64 n] w λe w'=>(e=.returned (.tuple #[.agg (SP live n),.int .i64 0]))/\∃l2:ac,l2.length=l.length/\Bytes l2/\Own w0 w' ((ga,AR (.slice gx l2.length l2.length) ((live+n:Nat):Int) (imax peak ((live+n:Nat):Int)))::(gx,B l2)::rs) ss:=by
 by_cases h:0<n
 .refine(Tz hm h2 h3 h).mono ?_;rintro e w'⟨rfl,hm⟩;exact⟨rfl,_,yC _ _ _,BC hb _ _,by rw[yC];exact hm⟩
 .refine(take_zero n hm h2 h3 FP).mono ?_;rintro e w'⟨rfl,hm⟩;exact⟨rfl,l,rfl,hb,hm⟩
def rj(n mk:Nat)(k:Nat)(C:ar)(live:Nat):Prop:=(k=0/\C=[]/\live=0)\/(k=1/\C=[.int .i64 0,.int .i64 n]/\live=n)\/(k=2/\C=[.int .i64 0,.int .i64 n,.int .i64 n,.int .i64 mk]/\live=n+mk)
def rj.step(h:rj n mk k C live)(hk:k<2):∃x:Nat,gi [(n:Int),mk] k=x/\live+x<=n+mk/\rj n mk (k+1) (C++[.int .i64 live,.int .i64 x]) (live+x):=by
 rcases h with⟨rfl,rfl,rfl⟩|⟨rfl,rfl,rfl⟩|⟨rfl,_,_⟩
 .exact⟨n,rfl,FP,.inr (.inl ⟨rfl,rfl,FP⟩)⟩
 .exact⟨mk,rfl,FP,.inr (.inr ⟨rfl,rfl,rfl⟩)⟩
 .omega
def ZY(gx:Nat)(l:ac)(m p q came:Int)(st told all e:Int){v:NY}(pe mo:Int)(hm:Own w0 w ((gd,DRw bud md (.pointer ga) pr pp sv m p q came bv st told all e)::rs) ss)(CP:Hid (∀W,ak 110 #[.int .i64 bud,.int .i64 n,.int .u8 2] W (Pol.lP W (mo,pe))))(hpe:pe≠0):ak 58 #[gd,.agg (aw kd n m1 p1 s1 v e1)] w (RO (.int .i64 pe) w0 ((gd,DRw bud md (.pointer ga) pr pp sv m p q came bv st told all e)::rs) ss):=by
 have q1:(pe !=0)=true:=by simpa using hpe
 go_enter func58,ntmps58
 go_wp2_with(first
 |go_at_call 110;refine cB (CP.o _) hm ?_;clear hm;intro w1 hm
 |refine UV ?_;try(clear hm;intro w gp hm))
 exact mU
def Vn(md:Int)(m p q came:Int)(bv:NY)(st told all e:Int){v:NY}(rs:ae)(hm:Own w0 w ((gd,DRw bud md (.pointer ga) pr pp (.slice none 0 0) m p q came bv st told all e)::(ga,AR (.slice gx l.length l.length) 0 0)::(gx,B l)::rs) ss)(CP:Hid (∀W,ak 110 #[.int .i64 bud,.int .i64 n,.int .u8 2] W (Pol.lP W (mo,0))))(CL:Hid (∀W,ak 94 #[.int .i64 n,.int .u8 2,.int .u8 mo] W (Pol.iX W [(n:Int),mk] 0)))(hb:Bytes l)(hl:l.length<=1048576)(hf:n+mk<=l.length):ak 58 #[gd,.agg (aw kd n m1 p1 s1 v e1)] w λx w'=>(x=.returned (.int .i64 0))/\∃(S:ae)(sv:NY)(l2:ac)(pk:Int),Lies 2 S sv 2 [.int .i64 0,.int .i64 n,.int .i64 n,.int .i64 mk]/\l2.length=l.length/\Bytes l2/\0<=pk/\pk<=l.length/\Own w0 w' ((gd,DRw bud mo (.pointer ga) pr pp sv m p q came bv st told all e)::(ga,AR (.slice gx l2.length l2.length) ((n+mk:Nat):Int) pk)::(gx,B l2)::(S++rs)) ss:=by
 have HB:=aa hb;clear hb;obtain⟨i1,hE⟩:=mz;have HE:=aa hE;clear hE;obtain⟨i5,hE⟩:=wM;have HE5:=aa hE;clear hE;obtain⟨i6,hE⟩:=Pol.i8;have HE1:=aa hE;clear hE;go_enter func58,ntmps58
 go_upto_region 1 with((with_reducible refine wb hm ?_;clear hm;intro w g hm))
 refine rO hm 6 (.am [(0,false),(1,false),(2,false),(3,true),(4,false),(5,true)] (.brk 6 12 (.am [(7,false),(8,false),(9,false),(10,false),(11,false)] .done))) ?_;clear hm;intro w hm;simp only[KT.am]
 iterate 3 refine kq ?_
 refine km (λW hm=>ld 1 hm rfl rfl rfl (ot rfl) rfl) ?_;refine kq ?_;refine km (λW hm=>ld 0 hm rfl rfl rfl (ot rfl) rfl) ?_;refine PO rfl rfl (λK hK=>?_);go_simp;refine cB (CP.o _) hm ?_;clear hm;intro w1 hm;refine hK _ _ ⟨λW=>Own _ W _ _,hm,?_⟩;clear hK K
 try simp only[Act.put,s3]
 iterate 5 refine kq ?_
 refine Ba ?_;go_simp
 go_wp2_with(first
  |(go_at_call 94;have _t:=hm;refine(CL.o _).mono ?_;rintro e w1⟨⟨r1,rfl,ho1⟩,hb1⟩;obtain⟨a1,c1,rfl⟩:=Pol.M5 ho1;replace hm:=hm.fG hb1 (Pol.n8 ho1);clear _t ho1 hb1)
  |(with_reducible first|refine wl 3 0 hm ?_|refine wc 5 1 hm ?_;clear hm;intro w hm)
   )
 go_loopw[39] (λu wr=>∃(k live:Nat)(C:ar)(S:ae)(sv:NY)(l2:ac)(pk:Int),u=.int .i64 k/\k<=2/\rj n mk k C live/\Lies 2 S sv k C/\l2.length=l.length/\Bytes l2/\0<=pk/\pk<=live/\Own w0 wr ((g,aw kd n m1 p1 s1 v e1)::(gd,DRw bud mo (.pointer ga) pr pp sv m p q came bv st told all e)::(ga,AR (.slice gx l2.length l2.length) (live:Int) pk)::(gx,B l2)::(S++rs)) ((.slice a1 2 c1,3,vs .i64 [(n:Int),mk])::ss)) (λu _=>2-(intOf u).toNat)
 case atStart=>exact⟨0,0,[],[],_,l,0,rfl,FP,.inl ⟨rfl,rfl,rfl⟩,⟨rfl,.inl ⟨rfl,rfl,rfl,rfl⟩⟩,rfl,HB.o,FP,FP,hm⟩
 case round=>
  clear hm;obtain⟨k,live,C,S,sv,l2,pk,rfl,hk,hC,hX,hl2,hb2,hp0,hp1,hm⟩:=hrel;by_cases hlt:k<2
  .obtain⟨x,hx,hfx,hC2⟩:=hC.step hlt;obtain⟨A,rfl⟩:=Src.some (l:=[(n:Int),mk]) (Src.Yo (hm.get 0 rfl)) (j:=k) KG;have hcell:=(Src.Yo (hm.get 0 rfl)).at (Fg .i64 [(n:Int),mk] k KG);rw[hx]at hcell;have HX:=aa hX;have HC2:=aa hC2;have hle:k<=1:=FP
   have HLen:Hid (C.length=k*2):=aa hX.1;clear hX hC hC2 hx;have HB2:=aa hb2;clear hb2
   go_upto_region 10 with(first
    |(go_at_call 23;have _t:=hm;refine(Lg live x hm.nt FP FP HB2.o).mono ?_;clear _t hm;rintro e2 w2⟨rfl,l3,hl3,hb3,hm⟩;replace hm:=hm.nt;have HB3:=aa hb3;clear hb3)
    |refine A8 rfl (Am rfl HE1.o rfl rfl rfl hlt) ?_
    |refine A8 rfl (AU rfl rfl Pol.DR hcell) ?_
    |(with_reducible first|refine wl 46 1 hm ?_|refine wu 50 0 hm ?_;clear hm;intro w hm|refine wa 50 hm nf ?_;clear hm;intro w g hm)
     )
   refine rO hm 7 (.am [(0,false),(1,false),(2,false),(3,false),(4,true),(5,true)] (.one 6 (.brk 7 10 (.am [(8,false),(9,false)] (.brk 10 11 .done))))) ?_;clear hm;intro w hm;simp only[KT.am]
   iterate 4 refine kq ?_
   refine km (λW hm=>ld 2 hm rfl rfl rfl (ot rfl) rfl) ?_;refine km (λW hm=>jb 0 hm rfl rfl rfl (ag rfl) rfl rfl) ?_
   refine Bo rfl rfl (pT hm rfl HE.o (Ac rfl) rfl rfl ?_)
   clear hm;intro w gb hm;refine⟨λW=>Own _ W _ _,λ_ h=>h.dropRow,hm,?_⟩
   try simp only[Act.put,s3]
   refine Em rfl rfl (GR (A:=[_,_,_,_,_,_]) (X:=S) hm rfl HE.o (Ac rfl) HX.o (Ac rfl) (λW h=>From.two (h.row 0 rfl)) (oR rfl rfl) FP FP FP ?_)
   clear hm;intro S2 v2 w hX2 hm;obtain⟨ad2,c2,rfl⟩:=hX2.shape
   try simp only[puts,s2,List.set,List.eraseIdx,s3]at hm
   refine⟨λW=>Own _ W _ _,hm,?_⟩
   try simp only[Act.put,s3]
   iterate 2 refine kq ?_
   refine Em rfl rfl (AZ 3 hm rfl rfl (Ac rfl) rfl (ot rfl) G5 rfl rfl rfl ?_)
   clear hm;intro w hm
   try simp only[puts,s2,List.set,List.eraseIdx,s3]at hm
   refine⟨λW=>Own _ W _ _,hm,?_⟩
   try simp only[Act.put,s3]
   refine Ba ?_;go_simp;go_wp2;go_roundw
   case rel=>exact⟨k+1,live+x,_,S2,_,l3,_,by go_num,FP,HC2.o,hX2,FP,HB3.o,by unfold imax;split<;>omega,by unfold imax;split<;>omega,hm.dropRow.dropRow⟩
   case measure=>simp[intOf];omega
  .obtain rfl:k=2:=FP
   obtain⟨rfl,rfl⟩:C=[.int .i64 0,.int .i64 n,.int .i64 n,.int .i64 mk]/\live=n+mk:=by
    rcases hC with⟨h,_⟩|⟨h,_⟩|⟨_,h⟩
    .omega
    .omega
    .exact h
   have HX:=aa hX;clear hX;go_wp2;go_ret;exact⟨rfl,S,sv,l2,pk,HX.o,hl2,hb2,hp0,FP,hm.dropRow.J9⟩
end
abbrev bR:=Int×Bool
def du(l:List bR):ar:=l.flatMap λp=>[.int .i64 p.1,.bool p.2]
def r8{l m:List bR}:du (l++m)=du l++du m:=by simp[du]
def y':∀l:List bR,(du l).length=l.length*2
|[]=>rfl
|p::l=>by have:=y' l;simp only[du,List.flatMap_cons,aV,bD]at this⊢;simp at this⊢;omega
def bI(l:List bR)(k:Nat):bR:=l.getD k (0,false)
def vQ:∀{l:List bR}{k:Nat},k<l.length->(du l)[k*2]?=some (.int .i64 (bI l k).1)/\(du l)[k*2+1]?=some (.bool (bI l k).2)
|[],_,h=>by simp at h
|p::l,0,_=>⟨rfl,rfl⟩
|p::l,k+1,h=>by
  have:=vQ (l:=l) (k:=k) GU;rw[show(k+1)*2=k*2+2 by omega];exact this
def j9(t l:ac):List bR:=l.map λs=>(gi t s.toNat,true)
def RL{o:Oz}{a:OA}{w:FC}{x y:O7}(ho:o.op=.build 281 #[(0,x),(1,y)]){n:Int}{b:Bool}(hx:a.eval x=.int .i64 n)(hy:a.eval y=.bool b):(execOp a.eval o).run prog w=.ok (.value (.agg #[.int .i64 n,.bool b])) w:=
 Dq ho GV
def AbZ(l:ac)(k:Nat)(h:k<l.length):l.take (k+1)=l.take k++[gi l k]:=FQ l k h
def WG{t l:ac}(ht:t.length=258)(hl:∀x∈l,0<=x/\x<258)(hn:l.length<=100000){g c:Nat}{T:ar}{w0 w:FC}{rs:ae}{ss:O1}(hr:(g,IR .i64 l T)∈rs)(hm:Own w0 w rs ss):ak 197 #[.agg (J .i64 t),.slice g l.length c] w λe w'=>∃X v,e=.returned v/\Lies 2 X v l.length (du (j9 t l))/\Own w0 w' (X++rs) ss:=by
 have HL:=aa hl;have HR:Hid (∀W A,Own w0 W (A++rs) ss->AA W g (IR .i64 l T)):=λW A h=>h.mem.rows _ (kU A hr);obtain⟨i2,hE⟩:=pZ;have HE:=aa hE;obtain⟨n,hnn⟩:∃n,n=l.length:=⟨_,rfl⟩;rw[<-hnn]at hn⊢;have HN:=aa hnn;clear hl hr hE hnn;go_enter func197,ntmps197
 go_wp2_with(first
 |refine U ?_;try(clear hm;intro w gt hm))
 go_loopw[4,9] (λu u9 wr=>∃(k:Nat)(X:ae),k<=n/\u9=.int .i64 k/\Lies 2 X u k (du (j9 t (l.take k)))/\Own w0 wr ((gt,J .i64 t)::(X++rs)) ss) (λ_ u9 _=>n-(intOf u9).toNat)
 case atStart=>exact⟨0,[],FP,rfl,Lies.nil 2,hm⟩
 case round=>
  clear hm;obtain⟨k,X,hk,rfl,hX,hm⟩:=hrel;obtain⟨ad,c1,rfl⟩:=hX.shape;have HX:=aa hX;clear hX;rcases bF k n with hlt|hge
  .obtain⟨hs0,hs1⟩:=HL.o (gi l k) (cI l k JR);obtain⟨s,hs⟩:=dB hs0;have hsl:s<258:=FP
   have hc:(IR .i64 l T)[k]?=some (.int .i64 (s:Int)):=by rw[kz JR,hs]
   have HT:Hid (j9 t (l.take (k+1))=j9 t (l.take k)++[(gi t s,true)]):=aa (by
    rw[j9,AbZ l k JR,ES,j9,hs];rfl)
   clear hs0 hs1 hs
   go_wp2_with(first
   |refine uI k ?_
   |refine uH s ?_
   |((with_reducible refine bh (t:=3) ?_);refine A8 rfl (Aa (off:=k) rfl rfl (HR.o _ (_::X) hm) (ot rfl) hc) ?_)
   |((with_reducible refine cS (t:=281) ?_);refine A8 rfl (RL rfl rfl rfl) ?_)
   |refine Ad rfl (pT hm rfl HE.o (Ac rfl) rfl rfl ?_);clear hm;intro w gb hm
   |(refine Ad rfl (GR (A:=[_,_]) (X:=X) hm rfl HE.o (Ac rfl) HX.o (Ac rfl) (λW h=>From.two (h.row 0 rfl)) (oR rfl rfl) FP FP FP ?_);clear hm;intro X2 v2 w hX2 hm;obtain⟨ad2,c2,rfl⟩:=hX2.shape;have HX2:=aa hX2;clear hX2)
   |refine U ?_;try(clear hm;intro w _ hm))
   go_roundw
   case rel=>exact⟨k+1,X2,FP,by go_num,by rw[HT.o,r8];exact HX2.o,hm.dropRow⟩
   case measure=>simp[intOf];omega
  .obtain rfl:k=n:=FP
   go_wp2;go_ret;refine⟨X,_,rfl,?_,hm.dropRow⟩;have:=HX.o;rw[HN.o,gY]at this;rw[HN.o];exact this
section
variable{b p zz:Int}{qk:Ob}{cs:ar}{c f g k n:Nat}{o:Oz}{x y:O7}{ty:O4}{v1 v2:NY}
def dr(l:List bR)(p:Int):Nat->Nat->Nat
|0,k=>k
|f+1,k=>if k<l.length/\(bI l k).1<=p then dr l p f (k+1)else k
def ej(l1 l2:List bR):Nat->List bR×Nat
|0=>([],0)
|j+1=>((ej l1 l2 j).1++(l1.take (dr l1 ((bI l2 (2*j)).1+(bI l2 (2*j+1)).1) l1.length (ej l1 l2 j).2)).drop (ej l1 l2 j).2++[((bI l2 (2*j)).1+(bI l2 (2*j+1)).1,false)],dr l1 ((bI l2 (2*j)).1+(bI l2 (2*j+1)).1) l1.length (ej l1 l2 j).2)
def ip(l1 l2:List bR):List bR:=(ej l1 l2 (l2.length/2)).1++l1.drop (ej l1 l2 (l2.length/2)).2
def zb{l:List bR}{p:Int}:∀{f k:Nat},k<=l.length->k<=dr l p f k/\dr l p f k<=l.length
|0,k,h=>⟨aX k,h⟩
|f+1,k,h=>by
  rw[dr];split
  .have:=zb (l:=l) (p:=p) (f:=f) (k:=k+1) FP;omega
  .exact⟨aX k,h⟩
def L'{l:List bR}(h:k<l.length)(hf:l.length<=f+k):dr l p f k=if(bI l k).1<=p then dr l p (f-1) (k+1)else k:=by
 obtain⟨f,rfl⟩:∃e,f=e+1:=⟨f-1,FP⟩;rw[dr];by_cases h1:(bI l k).1<=p
 .rw[aQ ⟨h,h1⟩,aQ h1];rfl
 .rw[aP (λh2=>h1 h2.2),aP h1]
def oZ{l:List bR}(h:l.length<=k):dr l p f k=k:=by
 cases f with
|zero=>rfl
|succ f=>rw[dr,aP (λh2=>by omega)]
def oX{l1 l2:List bR}:∀j,(ej l1 l2 j).2<=l1.length/\(ej l1 l2 j).1.length=(ej l1 l2 j).2+j
|0=>⟨dD _,rfl⟩
|j+1=>by
  obtain⟨h1,h2⟩:=oX (l1:=l1) (l2:=l2) j;have h3:=zb (p:=(bI l2 (2*j)).1+(bI l2 (2*j+1)).1) (f:=l1.length) h1;rw[ej];refine⟨h3.2,?_⟩;simp only[aV,dQ,fZ,rU,h2];omega
structure TR(rs:ae)(v:NY)(l:List bR)(b:Int):Prop where
 at_:∃g p c cells,v=.slice (some ⟨g,p,none⟩) l.length c/\l.length<=c/\(g,cells)∈rs/\(∀k,k<l.length->cells.toList[p+k*2]?=some (.int .i64 (bI l k).1)/\cells.toList[p+k*2+1]?=some (.bool (bI l k).2))
 bd:∀k,k<l.length->0<=(bI l k).1/\(bI l k).1<=b
def TR.qd{cells:ai}{rs:ae}{v:NY}{l:List bR}(hX:Lies 2 [(g,cells)] v l.length (du l))(hm:(g,cells)∈rs)(hb:∀k,k<l.length->0<=(bI l k).1/\(bI l k).1<=b):TR rs v l b:=by
 have hl:=y' l;rcases hX.2 with⟨h,_⟩|⟨g',p,c,cells',e1,e2,h1,h2,h3⟩
 .rename_i h2;cases h2.2.2
 .cases e1;refine⟨⟨g,p,c,cells,e2,h1,hm,λk hk=>?_⟩,hb⟩;obtain⟨q1,q2⟩:=vQ hk;rw[<-q1,<-q2,cE (xs:=cells),cE (xs:=cells)];exact⟨h3 (k*2) FP,by rw[gG];exact h3 (k*2+1) FP⟩
def Abd{a:OA}{w:FC}(ho:o.op=.build 281 #[(0,x)]){n:Int}(hx:a.eval x=.int .i64 n):(execOp a.eval o).run prog w=.ok (.value (.agg #[.int .i64 n,.bool false])) w:=
 Dq ho Ip
def zP(l:List bR){a:Nat}(ha:a<=k)(h:k<l.length):(l.take (k+1)).drop a=(l.take k).drop a++[bI l k]:=by
 rw[kW h,uD H9];simp[bI,List.getD,h]
def Bx{l:List bR}{p:Int}:∀{f f2 k:Nat},l.length<=f+k->l.length<=f2+k->dr l p f k=dr l p f2 k
|0,f2,k,h,_=>(oZ (f:=0) FP).trans (oZ FP).symm
|f+1,0,k,_,h=>(oZ FP).trans (oZ (f:=0) FP).symm
|f+1,f2+1,k,h,h2=>by
  rw[dr,dr,Bx (f:=f) (f2:=f2) FP FP]
def Agu{l:List bR}(h:k<l.length)(h1:(bI l k).1<=p):dr l p l.length (k+1)=dr l p l.length k:=by
 rw[L' (k:=k) h FP,aQ h1];exact Bx FP FP
def Hx{l:List bR}(h:¬(k<l.length/\(bI l k).1<=p)):dr l p l.length k=k:=by
 rcases bF k l.length with h2|h2
 .rw[L' h2 FP,aP (λh3=>h ⟨h2,h3⟩)]
 .exact oZ h2
def En.nq{g:Nat}{cs:ai}:∀{rs:ae},(g,cs)∈rs->En rs g cs cs rs
|r::rs,h=>by
  rcases dh.1 h with rfl|h
  .exact .head
  .exact .tail (En.nq h)
section
variable{ops:bl}{Q:Exit->aJ}{a:OA}{w w0:FC}{rs:ae}{ss:O1}{rest:bt}{js:OB}{i:Nat}{ks:b9}
def vI{b:OA}(k:Nat){dst:Oo}{pos:String}{af:Ot}{gd:Oq}(h:wpList prog ops Q rest b w){p:Nat}(hg:MZ ⟨dst,.indexAddr 276 x y,ty,pos,af,gd⟩ ops a:=by exact Gx)
  (hx:a.eval x=.slice (some ⟨g,p,none⟩) n c:=by exact Gx)(hy:a.eval y=.int qk zz:=by exact Gx)(hz:zz=k:=by omega)(hk:k<n:=by omega)
  (hb:a.put dst (.pointer (some ⟨g,p+k*2,none⟩))=b:=by exact gJ):wpList prog ops Q (⟨dst,.indexAddr 276 x y,ty,pos,af,gd⟩::rest) a w:=by
 obtain⟨q,he⟩:=pZ;exact A8 hg (ix rfl he hx hy hz hk) (hb▸h)
def vJ{b:OA}(k:Nat){dst:Oo}{pos:String}{af:Ot}{gd:Oq}(h:bA prog ops Q ks w0 rs ss js b w){p:Nat}(hg:MZ ⟨dst,.indexAddr 276 x y,ty,pos,af,gd⟩ ops a:=by exact Gx)
  (hx:a.eval x=.slice (some ⟨g,p,none⟩) n c:=by exact Gx)(hy:a.eval y=.int qk zz:=by exact Gx)(hz:zz=k:=by omega)(hk:k<n:=by omega)
  (hb:a.put dst (.pointer (some ⟨g,p+k*2,none⟩))=b:=by exact gJ):bA prog ops Q ks w0 rs ss ((i,⟨dst,.indexAddr 276 x y,ty,pos,af,gd⟩)::js) a w:=by
 obtain⟨q,he⟩:=pZ;exact LL
end
def Hi:∀(l:List bR)(k:Nat),du (l.drop k)=(du l).drop (k*2)
|l,0=>by simp
|[],k+1=>by simp[du]
|p::l,k+1=>by rw[y9,Hi l k,show(k+1)*2=k*2+2 by omega];rfl
def Xi{l:List bR}{p:Nat}(h:∀k,k<l.length->cs[p+k*2]?=some (.int .i64 (bI l k).1)/\cs[p+k*2+1]?=some (.bool (bI l k).2)){j:Nat}(hj:j<l.length*2):cs[p+j]?=(du l)[j]?:=by
 have hj2:j/2<l.length:=FP
 obtain⟨h1,h2⟩:=h _ hj2;obtain⟨q1,q2⟩:=vQ hj2;rcases(show j=j/2*2\/j=j/2*2+1 by omega)with e|e
 .rw[e,h1,q1]
 .rw[e,<-gG,h2,q2]
def From.Tp{l:List bR}{w:FC}{p:Nat}{cs:ai}(hr:AA w g cs)(hl:n=l.length)(h:∀k,k<l.length->cs.toList[p+k*2]?=some (.int .i64 (bI l k).1)/\cs.toList[p+k*2+1]?=some (.bool (bI l k).2))(hk:k<=n)(hn:n<=c):From 2 w (.slice (if c=k then some ⟨g,p,none⟩else(some (⟨g,p,none⟩:Addr)).map (·.add (k*2))) (n-k) (c-k)) (n-k) (du (l.drop k)):=by
 have hlen:(du (l.drop k)).length=(n-k)*2:=by rw[y',dQ,hl]
 by_cases hc:c=k
 .rw[aQ hc];refine From.io hr p hlen λj u hj=>?_;have:=(gI.1 hj).1;omega
 .rw[aP hc,jE,fQ];refine From.io hr (p+k*2) hlen λj u hj=>?_;have hj2:=(gI.1 hj).1;rw[Hi,qB,<-Xi h FP,cE,<-gG]at hj;exact hj
def Wy{l:List bR}:∀u∈du l,u.oneCell'=true:=λu hu=>by
 obtain⟨p,_,hp⟩:=List.mem_flatMap.1 hu;rcases dh.1 hp with rfl|hp
 .rfl
 .rw[fC.1 hp];rfl
def Sp{l1 l2:List bR}{w0 w:FC}{rs:ae}{ss:O1}(h1:TR rs v1 l1 b)(h2:TR rs v2 l2 b)(hb:b<=2305843009213693951)(hn1:l1.length<=100000)(hn2:l2.length<=100000)(hm:Own w0 w rs ss):ak 198 #[v1,v2] w λe w'=>∃X v,e=.returned v/\Lies 2 X v (ip l1 l2).length (du (ip l1 l2))/\Own w0 w' (X++rs) ss:=by
 obtain⟨⟨gx,p1,c1,cs1,rfl,hc1,hr1,hk1⟩,hb1⟩:=h1;obtain⟨⟨gy,p2,c2,cs2,rfl,hc2,hr2,hk2⟩,hb2⟩:=h2;have HR1:=aa (En.nq hr1);have HR2:=aa (En.nq hr2);have HF1:Hid (∀W A,Own w0 W (A++rs) ss->AA W gx cs1):=λW A h=>h.mem.rows _ (kU A hr1);have HK1:=aa hk1;have HK2:=aa hk2;have HB1:=aa hb1;have HB2:=aa hb2;obtain⟨i2,hE⟩:=pZ;have HE:=aa hE;obtain⟨n1,hnn⟩:∃n,n=l1.length:=⟨_,rfl⟩;obtain⟨n2,hnm⟩:∃n,n=l2.length:=⟨_,rfl⟩;rw[<-hnn]at hn1 hc1;rw[<-hnm]at hn2 hc2;simp only[<-hnn,<-hnm];have HN1:=aa hnn;have HN2:=aa hnm;clear hr1 hr2 hk1 hk2 hb1 hb2 hE hnn hnm;go_enter func198,ntmps198;go_wp2
 go_loopw[4,5,6] (λu u5 u6 wr=>∃(j k:Nat)(X:ae),2*j<=n2/\k<=n1/\u6=.int .i64 (2*(j:Int))/\u5=.int .i64 k/\Hid ((ej l1 l2 j).2=k)/\Lies 2 X u (k+j) (du (ej l1 l2 j).1)/\Own w0 wr (X++rs) ss) (λ_ _ u6 _=>n2+2-(intOf u6).toNat)
 case atStart=>exact⟨0,0,[],FP,FP,rfl,rfl,aa rfl,Lies.nil 2,hm⟩
 case round=>
  clear hm;obtain⟨j,k,X,hj,hk,rfl,rfl,HK,hX,hm⟩:=hrel;obtain⟨ad,c3,rfl⟩:=hX.shape;have HX:=aa hX;clear hX;rcases bF (2*j+1) n2 with hlt|hge
  .have q1:decide (2*(j:Int)+1<n2)=true:=az;have hx0:=(HK2.o (2*j) JK).1;have hx1:=(HK2.o (2*j+1) JK).1;have hy0:=HB2.o (2*j) JK;have hy1:=HB2.o (2*j+1) JK;obtain⟨A0,hA0⟩:∃x,x=(bI l2 (2*j)).1:=⟨_,rfl⟩;obtain⟨A1,hA1⟩:∃x,x=(bI l2 (2*j+1)).1:=⟨_,rfl⟩;rw[<-hA0]at hx0 hy0;rw[<-hA1]at hx1 hy1;have HS:Hid (ej l1 l2 (j+1)=((ej l1 l2 j).1++(l1.take (dr l1 (A0+A1) l1.length k)).drop k++[(A0+A1,false)],dr l1 (A0+A1) l1.length k)):=aa (by rw[ej,<-hA0,<-hA1,HK.o]);clear hA0 hA1
   go_wp2_with(first
   |((with_reducible refine g5 ?_);refine uT [13] [] hm ?_;clear hm;intro w _ hm)
   |refine vJ (2*j) ?_
   |refine vJ (2*j+1) ?_
   |((with_reducible refine g7 ?_);refine uM (hr:=En.app HR2.o) (hl:=.one (ot rfl) hx0) ?_)
   |((with_reducible refine g7 ?_);refine uM (hr:=En.app HR2.o) (hl:=.one (ot rfl) hx1) ?_)
   |((with_reducible refine g6 ?_);refine j1 rfl rfl (λW=>Abd rfl rfl) ?_)
   |((with_reducible refine g4 ?_);refine uA hm (hz:=tj) ?_;clear hm;intro w gp hm)
   |refine U ?_;try(clear hm;intro w _ hm))
   go_loopw[4,5] (λu u5 wr=>∃(m:Nat)(Y:ae),k<=m/\m<=n1/\u5=.int .i64 m/\Hid (dr l1 (A0+A1) l1.length m=dr l1 (A0+A1) l1.length k)/\Lies 2 Y u (m+j) (du ((ej l1 l2 j).1++(l1.take m).drop k))/\Own w0 wr ((gp,#[.int .i64 (A0+A1),.bool false])::(Y++rs)) ss) (λ_ u5 _=>n1-(intOf u5).toNat)
   case atStart=>exact⟨k,X,FP,FP,rfl,aa rfl,by rw[List.drop_take,iV];simpa using HX.o,hm⟩
   case round=>
    clear hm HX;obtain⟨m,Y,hkm,hmn,rfl,HM,hY,hm⟩:=hrel;obtain⟨ad2,c4,rfl⟩:=hY.shape;have HY:=aa hY;clear hY;obtain⟨C,hC⟩:∃x,x=(bI l1 m).1:=⟨_,rfl⟩;rcases(show(m<n1/\C<=A0+A1)\/(m<n1/\¬C<=A0+A1)\/¬m<n1 by omega)with⟨hlt2,hle⟩|⟨hlt2,hle⟩|hge2
    .obtain⟨hc0,hc1'⟩:=HK1.o m JM;rw[<-hC]at hc0;have q2:decide ((m:Int)<n1)=true:=az;have q3:decide (C<=A0+A1)=true:=aW hle;have HM2:Hid (dr l1 (A0+A1) l1.length (m+1)=dr l1 (A0+A1) l1.length k):=aa ((Agu JM (hC▸hle)).trans HM.o);have HD:Hid ((l1.take (m+1)).drop k=(l1.take m).drop k++[(C,(bI l1 m).2)]):=aa (by rw[zP l1 hkm JM,hC]);clear hC
     go_wp2_with(first
     |((with_reducible refine g5 ?_);refine uT [] [] hm ?_;clear hm;intro w _ hm)
     |refine vJ m ?_
     |refine vI m ?_
     |((with_reducible refine g7 ?_);refine uM (hr:=En.tail (En.app HR1.o)) (hl:=.one (ot rfl) hc0) ?_)
     |((with_reducible refine g1 ?_);refine uL hm (hr:=En.tail (En.app HR1.o)) (hl:=.two (ag rfl) hc0 hc1') ?_)
     |refine Ad rfl (pT hm rfl HE.o (Ac rfl) rfl rfl ?_);clear hm;intro w gb hm
     |(refine Ad rfl (GR (A:=[_,_]) (X:=Y) hm rfl HE.o (Ac rfl) HY.o (Ac rfl) (λW h=>From.two (h.row 0 rfl)) (oR rfl rfl) FP FP FP ?_);clear hm;intro Y2 v2 w hY2 hm;obtain⟨ad3,c5,rfl⟩:=hY2.shape;have HY2:=aa hY2;clear hY2)
     |refine U ?_;try(clear hm;intro w _ hm))
     go_roundw
     case rel=>exact⟨m+1,Y2,FP,FP,by go_num,HM2,by rw[HD.o,<-aI,r8,show m+1+j=m+j+1 by omega];exact HY2.o,hm.dropRow⟩
     case measure=>simp[intOf];omega
    .have hc0:=(HK1.o m JM).1;rw[<-hC]at hc0;have q2:decide ((m:Int)<n1)=true:=az;have q3:decide (C<=A0+A1)=false:=aU hle;have HM2:Hid (dr l1 (A0+A1) l1.length k=m):=aa (HM.o.symm.trans (Hx (λh=>hle (hC▸h.2))));exact Km
    .have q2:decide ((m:Int)<n1)=false:=an;have HM2:Hid (dr l1 (A0+A1) l1.length k=m):=aa (HM.o.symm.trans (Hx (λh=>hge2 (by rw[HN1.o];exact h.1))));exact Km
  .have q1:decide (2*(j:Int)+1<n2)=false:=an;obtain⟨sv,hsv⟩:∃x,x=Value.slice (if c1=k then some ⟨gx,p1,none⟩else(some (⟨gx,p1,none⟩:Addr)).map (·.add (k*2))) (n1-k) (c1-k):=⟨_,rfl⟩;have HF:Hid (∀W,Own w0 W (X++rs) ss->From 2 W sv (n1-k) (du (l1.drop k))):=λW h=>hsv▸From.Tp (HF1.o W X h) HN1.o HK1.o hk hc1;have HV:=aa hsv;clear hsv
   go_wp2_with(first
   |refine A8 (v:=sv) rfl ((NA (l:=k) (h:=n1) rfl HE.o (Ac rfl) (.inr ⟨.i64,rfl⟩) (.inl ⟨rfl,rfl⟩) hk hc1).trans (by rw[HV.o])) ?_
   |(refine Ad rfl (GR (A:=[]) (X:=X) (news:=du (l1.drop k)) hm rfl HE.o (Ac rfl) HX.o (Ac rfl) HF.o Wy FP FP FP ?_);clear hm;intro Y2 v2 w hY2 hm;obtain⟨ad3,c5,rfl⟩:=hY2.shape;have HY2:=aa hY2;clear hY2)
   |refine U ?_;try(clear hm;intro w _ hm))
   go_ret;obtain rfl:j=n2/2:=FP
   refine⟨Y2,_,rfl,?_,hm⟩
   have hl:(ip l1 l2).length=k+n2/2+(n1-k):=by
    rw[ip,aV,dQ,<-HN2.o,HK.o,(oX _).2,HK.o,HN1.o]
   rw[hl,ip,r8,<-HN2.o,HK.o];exact HY2.o
end
open Go Go.RowKit
def D4{l:List bR}(h:∀x∈l,x.2=true)(a b:Nat):((l.take b).drop a).countP (·.2)=((l.take b).drop a).length:=
 Cc.2 λx hx=>h x (jB (iw hx))
def LB{l1 l2:List bR}(h:∀x∈l1,x.2=true):∀j,(ej l1 l2 j).1.countP (·.2)=(ej l1 l2 j).2
|0=>rfl
|j+1=>by
  obtain⟨h1,h2⟩:=oX (l1:=l1) (l2:=l2) j;have h3:=zb (p:=(bI l2 (2*j)).1+(bI l2 (2*j+1)).1) (f:=l1.length) h1;rw[ej,jJ,jJ,LB h j,D4 h,dQ,fZ];simp;omega
def XN{l1 l2:List bR}:(ip l1 l2).length=l1.length+l2.length/2:=by
 obtain⟨h1,h2⟩:=oX (l1:=l1) (l2:=l2) (l2.length/2);rw[ip,aV,h2,dQ];omega
def Uz{l1 l2:List bR}(h:∀x∈l1,x.2=true):(ip l1 l2).countP (·.2)=l1.length:=by
 obtain⟨h1,h2⟩:=oX (l1:=l1) (l2:=l2) (l2.length/2);have:=D4 h (ej l1 l2 (l2.length/2)).2 l1.length;rw[gY]at this;rw[ip,jJ,LB h,this,dQ];omega
def QP{l:List bR}{k:Nat}(h:k<l.length):bI l k∈l:=by
 rw[bI,fU,fe h];exact dF h
def wA{l:List bR}{p:bR->Prop}(h:∀x∈l,p x){k:Nat}(hk:k<l.length):p (bI l k):=h _ (QP hk)
def AgY{l1 l2:List bR}{b:Int}(h1:∀x∈l1,0<=x.1/\x.1<=b)(h2:∀x∈l2,0<=x.1/\x.1<=b):∀x∈ip l1 l2,0<=x.1/\x.1<=2*b:=by
 have key:∀j,2*j<=l2.length->∀x∈(ej l1 l2 j).1,0<=x.1/\x.1<=2*b:=λj=>by
  induction j with
 |zero=>intro _ x hx;cases hx
 |succ j ih=>
   intro hj x hx;rw[ej]at hx;rcases dG.1 hx with hx|hx
   .rcases dG.1 hx with hx|hx
    .exact ih FP x hx
    .have:=h1 x (jB (iw hx));omega
   .rw[fC.1 hx];have a0:=wA h2 (k:=2*j) FP;have a1:=wA h2 (k:=2*j+1) FP;simp only;omega
 intro x hx;rcases dG.1 hx with hx|hx
 .exact key _ FP x hx
 .have:=h1 x (iw hx);omega
def rowP(t o:ac):Nat->List bR
|0=>j9 t o
|k+1=>ip (j9 t o) (rowP t o k)
def fz(s:Nat):Nat->Nat
|0=>s
|k+1=>s+fz s k/2
def mE(t o:ac):(j9 t o).length=o.length:=kX _
def NO(t o:ac):∀x∈j9 t o,x.2=true:=λx hx=>by
 obtain⟨_,_,rfl⟩:=eX.1 hx;rfl
def tH(t o:ac):∀k,(rowP t o k).length=fz o.length k
|0=>mE t o
|k+1=>by rw[rowP,XN,mE,tH t o k,fz]
def Mb(t o:ac):∀k,(rowP t o k).countP (·.2)=o.length
|0=>by rw[rowP,Cc.2 (NO t o),mE]
|k+1=>by rw[rowP,Uz (NO t o),mE]
def vh{t o:ac}(ht:∀x∈t,0<=x/\x<=2147483647)(hl:t.length=258)(ho:∀x∈o,0<=x/\x<258):∀k,∀x∈rowP t o k,0<=x.1/\x.1<=2^k*2147483647
|0,x,hx=>by
  obtain⟨s,hs,rfl⟩:=eX.1 hx;have h:=ho s hs;have:=ht _ (cI t s.toNat FP);simpa using this
|k+1,x,hx=>by
  have h0:=vh ht hl ho 0;have hp:(1:Int)<=2^k:=by exact_mod_cast Nat.one_le_two_pow
  have:=AgY (b:=2^k*2147483647) (λy hy=>by have:=h0 y hy;refine⟨this.1,?_⟩;omega) (vh ht hl ho k) x hx;rw[Int.pow_succ];omega
def r7(s:Nat):∀k,fz s k<=2*s
|0=>by rw[fz];omega
|k+1=>by have:=r7 s k;rw[fz];omega
def Ah2{s:Nat}(h:s<=258):2*s-2<=fz s 14:=(Nb:∀s,s<259->2*s-2<=fz s 14) s FP
def eT(o:ac)(row:List bR)(l:ac):Nat->Nat×ac
|0=>(0,l)
|i+1=>if(bI row i).2=true then((eT o row l i).1+1,(eT o row l i).2.set (gi o (eT o row l i).1).toNat (IntKind.u8.wrap (gi (eT o row l i).2 (gi o (eT o row l i).1).toNat+1)))else eT o row l i
def r9(o:ac){row:List bR}(l:ac):∀{i},i<=row.length->(eT o row l i).1=(row.take i).countP (·.2)
|0,_=>by simp[eT]
|i+1,h=>by
  rw[eT,show row.take (i+1)=row.take i++[bI row i] by have:=zP row (dD i) FP;simpa using this,jJ,<-r9 o l (i:=i) FP];by_cases hc:(bI row i).2=true
  .rw[aQ hc];simp[hc]
  .rw[aP hc];simp[hc]
def sk(o:ac){row:List bR}(l:ac):∀i,(eT o row l i).2.length=l.length
|0=>rfl
|i+1=>by
  rw[eT];split
  .simp[sk o l i]
  .exact sk o l i
def dE(t o:ac):Nat->Nat×ac
|0=>(2*o.length-2,Hf)
|j+1=>(2*((dE t o j).1-(eT o (rowP t o (14-j)) (dE t o j).2 (dE t o j).1).1),(eT o (rowP t o (14-j)) (dE t o j).2 (dE t o j).1).2)
def vR(t o:ac):∀j,(dE t o j).2.length=258
|0=>fp
|j+1=>by rw[dE];exact(sk _ _ _).trans (vR t o j)
def OF{t o:ac}(h:o.length<=258):∀j,j<=14->(dE t o j).1<=fz o.length (14-j)
|0,_=>Ah2 h
|j+1,hj=>by
  have ih:=OF (t:=t) h j FP;have e:=tH t o (14-j);have hc:=Mb t o (14-j);obtain⟨q,hq⟩:∃q,14-j=q+1:=⟨13-j,FP⟩;rw[dE,show 14-(j+1)=q by omega,r9 _ _ (by rw[e];exact ih)];rw[hq]at e hc ih⊢;rw[fz]at e ih
  have h1:(rowP t o (q+1)).countP (·.2)=((rowP t o (q+1)).take (dE t o j).1).countP (·.2)+((rowP t o (q+1)).drop (dE t o j).1).countP (·.2):=by
   rw[<-jJ,kC]
  have h2:=xE (p:=(·.2)) (l:=(rowP t o (q+1)).drop (dE t o j).1);rw[dQ,e]at h2;simp only;omega
def Li{t o:ac}{j:Nat}(h:(dE t o j).1=0):∀i,dE t o (j+i)=dE t o j
|0=>rfl
|i+1=>by
  rw[<-gG,dE,Li h i,h];exact uF h.symm rfl
def gj(t:ac):ac:=if(OV t).length=1 then(Hf).set (gi (OV t) 0).toNat 1 else(dE t (OV t) 15).2
section
variable{b zz:Int}{q qk:Ob}{l m o t:ac}{xs:ar}{c e g h k n p s:Nat}{x y:O7}{P:O8}{rs':ae}{ty:O4}{z:NY}
def k9:(vs q l).all Value.oneCell'=true:=iP.2 λv hv=>by
 obtain⟨n,_,rfl⟩:=eX.1 hv;rfl
def x'(hl:l.length=258)(hm:m.length=258):jx prog 139 (J .u8 l) 0 (.agg (J .u8 m)) (J .u8 m):=
 .all (us:=vs .u8 m) (by rw[Ai,hm];exact xW) KO k9
def gM(hl:l.length=258):Ld prog 139 (J .u8 l) 0 (.agg (J .u8 l)):=.all (F5 hl)
def x8(hl:l.length=258):Ld prog 227 (J .i64 l) 0 (.agg (J .i64 l)):=.all (gh hl)
def Fy:∀x∈OV t,0<=x/\x<258:=λx hx=>by
 have:=sI x ((Sub.ij (C:=wZ t) (l:=cK t 258)).mem x hx);omega
def wH:(OV t).length=(cK t 258).length:=(Sub.ij (C:=wZ t) (l:=cK t 258)).len
def a1S:∃i,Gv prog 278 276 i (.slice none 0 0) 24:=Gv.ex underlying278 FZ rfl
def vA:ET prog 276:=⟨λw=>FZ,FZ⟩
def AhH(ht:∀x∈t,0<=x/\x<=2147483647)(hl:t.length=258)(ho:∀x∈o,0<=x/\x<258)(hk:k<=15):∀x∈rowP t o k,0<=x.1/\x.1<=70368744144896:=λx hx=>by
 have h:=vh ht hl ho k x hx;have h2:(2:Int)^k<=2^15:=by exact_mod_cast jD (FP:0<2) hk
 omega
def TR.mono{rs:ae}{v:NY}{l:List bR}(h:TR rs v l b)(hs:∀r∈rs,r∈rs'):TR rs' v l b:=by
 obtain⟨⟨g,p,c,cs,h1,h2,h3,h4⟩,h5⟩:=h;exact⟨⟨g,p,c,cs,h1,h2,hs _ h3,h4⟩,h5⟩
def TR.Mq{X:ae}{v:NY}{l:List bR}(hX:Lies 2 X v l.length (du l))(h0:0<l.length)(hb:∀x∈l,0<=x.1/\x.1<=b):TR X v l b:=by
 obtain⟨h1,⟨_,_,h,_⟩|⟨g,p,c,cells,e,h2⟩⟩:=hX
 .omega
 .subst e;exact .qd ⟨h1,.inr ⟨g,p,c,cells,rfl,h2⟩⟩ eP λk hk=>wA hb hk
def Lies.Z3{X:ae}{v:NY}(hX:Lies 1 X v n xs)(h0:0<n):∃g p c cells,X=[(g,cells)]/\v=.slice (some ⟨g,p,none⟩) n c/\∀j u,xs[j]?=some u->cells.toList[p+j]?=some u:=by
 obtain⟨h1,⟨_,_,h,_⟩|⟨g,p,c,cells,e,e2,h2,h3,h4⟩⟩:=hX
 .omega
 .refine⟨g,p,c,cells,e,e2,λj u hu=>?_⟩;have:=(gI.1 hu).1;rw[cE,h4 j FP,hu]
section
variable{ops:bl}{Q:Exit->aJ}{a:OA}{w w0:FC}{rs:ae}{ss:O1}{rest:bt}{js:OB}{i:Nat}{ks:b9}
def wI{b:OA}(k:Nat){dst:Oo}{pos:String}{af:Ot}{gd:Oq}(h:wpList prog ops Q rest b w)(hg:MZ ⟨dst,.indexAddr 278 x y,ty,pos,af,gd⟩ ops a:=by exact Gx)
  (hx:a.eval x=.slice (some ⟨g,p,none⟩) n c:=by exact Gx)(hy:a.eval y=.int qk zz:=by exact Gx)(hz:zz=k:=by omega)(hk:k<n:=by omega)
  (hb:a.put dst (.pointer (some ⟨g,p+k,none⟩))=b:=by exact gJ):wpList prog ops Q (⟨dst,.indexAddr 278 x y,ty,pos,af,gd⟩::rest) a w:=by
 obtain⟨q,he⟩:=tF;exact A8 hg (db rfl he hx hy hz hk) (hb▸h)
def wJ{b:OA}(k:Nat){dst:Oo}{pos:String}{af:Ot}{gd:Oq}(h:bA prog ops Q ks w0 rs ss js b w)(hg:MZ ⟨dst,.indexAddr 278 x y,ty,pos,af,gd⟩ ops a:=by exact Gx)
  (hx:a.eval x=.slice (some ⟨g,p,none⟩) n c:=by exact Gx)(hy:a.eval y=.int qk zz:=by exact Gx)(hz:zz=k:=by omega)(hk:k<n:=by omega)
  (hb:a.put dst (.pointer (some ⟨g,p+k,none⟩))=b:=by exact gJ):bA prog ops Q ks w0 rs ss ((i,⟨dst,.indexAddr 278 x y,ty,pos,af,gd⟩)::js) a w:=by
 obtain⟨q,he⟩:=tF;exact j1 rfl hg (λW=>db rfl he hx hy hz hk) (hb▸h)
end
def Ah3(s:Nat):∀k,s<=fz s k
|0=>aX s
|k+1=>by rw[fz];omega
def BB{o:Oz}{a:OA}{w:FC}{t bytes:Nat}{q:Oy}(ho:o.op=.slice t x none (some y) none)(he:OW P t e s bytes q z)(hx:a.eval x=.slice (some ⟨g,p,none⟩) n c)(hy:a.eval y=.int .i64 h)(hc:h<=c):(execOp a.eval o).run P w=.ok (.value (.slice (some ⟨g,p,none⟩) h c)) w:=by
 have:=NA (w:=w) (l:=0) (h:=h) ho he hx (.inl ⟨rfl,rfl⟩) (.inr ⟨.i64,by rw[jE,hy]⟩) (dD h) hc;rw[this];split<;>simp[fQ]
def SN{l:ar}{v:NY}{i:Nat}(h:i<l.length):(l++[v]).getD i undef=l.getD i undef:=by
 simp[fU,kF h]
def Yd{l:ar}{v:NY}:(l++[v]).getD l.length undef=v:=by
 simp[fU]
def QO(hl:t.length=258)(hb:∀x∈t,0<=x/\x<=2147483647)(hp:0<(cK t 258).length){w0 w:FC}{rs:ae}{ss:O1}(hm:Own w0 w rs ss):ak 156 #[.agg (J .i64 t),.int .i64 15] w (RO (.tuple #[.agg (J .u8 (gj t)),.int .i64 0]) w0 rs ss):=by
 have HL:=aa hl;have HB:=aa hb;have HP:=aa hp;obtain⟨s,hs⟩:∃s,s=(OV t).length:=⟨_,rfl⟩;have hs0:0<s:=by rw[hs,wH];exact hp
 have hs1:s<=258:=by rw[hs,wH];exact pQ t 258
 have HS:=aa hs;have CV:Hid (∀w,ak 196 #[.agg (J .i64 t)] w (RB w (.bool true))):=λw=>Ly hl hb;have ho:Hid (∀x∈OV t,0<=x/\x<258):=aa Fy;obtain⟨i2,hE⟩:=pZ;obtain⟨i3,hE3⟩:=tF;obtain⟨i4,hE4⟩:=a1S;have HE:=aa hE;have HE3:=aa hE3;have HE4:=aa hE4;have q0:decide ((32768:Int)<s)=false:=an;clear hE hE3 hE4 hs hl hb hp;rcases(show s=1\/s≠1 by omega)with h1|h1
 .have q1:((s:Int)==1)=true:=by rw[h1];rfl
  obtain⟨a,ha⟩:=dB (ho.out (gi (OV t) 0) (cI _ 0 (by rw[<-HS.o];exact hs0))).1;have ha2:a<258:=by have:=(ho.out (gi (OV t) 0) (cI _ 0 (by rw[<-HS.o];exact hs0))).2;omega
  have hlo:0<(OV t).length:=by rw[<-HS.o];exact hs0
  have hlz:Hf.length=258:=Az;have HQ:Hid (Hf.set a 1=gj t):=aa (by rw[gj,aQ L8,ha];rfl);have HQ2:(Hf.set a 1).length=258:=by rw[cO];exact hlz
  go_enter func156,ntmps156
  go_wp2_with(first
  |((with_reducible refine g4 ?_);refine uA hm (hz:=aC) ?_;clear hm;intro w gl hm)
  |((with_reducible refine g1 ?_);refine uL hm (hl:=x8 HL.o) ?_)
  |((with_reducible refine g1 ?_);refine uL hm (hl:=gM HQ2) ?_)
  |((with_reducible refine g2 ?_);refine uS hm (hl:=x' HQ2 HQ2) ?_;clear hm;intro w _ hm)
  |go_at_call 195;refine(pord HL.o HB.o HP.o hm).mono ?_;clear hm;rintro e w1⟨go,c1,T,rfl,hm⟩;rw[<-HS.o]
  |go_at_call 196;refine cB (CV.o _) hm ?_;clear hm;intro w1 hm
  |refine uI 0 ?_
  |refine uH a ?_
  |refine U ?_;try(clear hm;intro w gt hm))
  refine aD (Af rfl rfl (hm.row 1 rfl) (F5 HQ2)) rfl ⟨by rw[HQ.o];rfl,hm.dropRow.dropRow.dropRow⟩
 .have q1:((s:Int)==1)=false:=lH.2 FP;have HB2:Hid (∀k,k<=15->∀x∈rowP t (OV t) k,0<=x.1/\x.1<=70368744144896):=λk hk=>AhH HB.o HL.o ho.out hk;have HLn:Hid (∀k,(rowP t (OV t) k).length=fz s k):=λk=>by rw[HS.o];exact tH _ _ k
  go_enter func156,ntmps156
  go_wp2_with(first
  |((with_reducible refine g4 ?_);refine uA hm (hz:=aC) ?_;clear hm;intro w gl hm)
  |((with_reducible refine g1 ?_);refine uL hm (hl:=x8 HL.o) ?_)
  |go_at_call 195;refine(pord HL.o HB.o HP.o hm).mono ?_;clear hm;rintro e w1⟨go,c1,T,rfl,hm⟩;rw[<-HS.o]
  |go_at_call 196;refine cB (CV.o _) hm ?_;clear hm;intro w1 hm
  |(go_at_call 197;have CP:=WG (c:=c1) HL.o ho.out (by rw[<-HS.o];omega) eP hm;rw[<-HS.o]at CP;refine CP.mono ?_;clear CP hm;rintro e w1⟨X0,v0,rfl,hX0,hm⟩;have HX0:=aa (TR.Mq (l:=j9 t (OV t)) (b:=70368744144896) (by rw[mE,<-HS.o];exact hX0) (by rw[mE,<-HS.o];exact hs0) (HB2.o 0 FP));clear hX0;obtain⟨⟨gz,pz,cz,cz2,rfl,hz⟩,_⟩:=HX0.o;clear hz;simp only[mE,<-HS.o]at HX0⊢)
  |refine Ad rfl (JQ hm rfl HE4.o (Ac rfl) rfl ?_);clear hm;intro w gy hm
  |refine U ?_;try(clear hm;intro w gt hm))
  go_loopw[7,8] (λu u8 wr=>∃(k:Nat)(A Y:ae)(vl:ar),1<=k/\k<=15/\u8=.int .i64 k/\Hid (vl.length=k)/\Lies 1 Y u k vl/\Hid (∀i,i<k->TR (A++X0) (vl.getD i undef) (rowP t (OV t) i) 70368744144896)/\Own w0 wr (A++(Y++(X0++((go,IR .i64 (OV t) T)::(gl,J .u8 Hf)::(gt,J .i64 t)::rs)))) ss) (λ_ u8 _=>16-(intOf u8).toNat)
  case atStart=>
   refine⟨1,[],[(gy,_)],[.slice (some ⟨gz,pz,none⟩) s cz],FP,FP,rfl,aa rfl,⟨rfl,.inr ⟨gy,0,1,_,rfl,rfl,FP,G5,λj hj=>?_⟩⟩,aa λi hi=>?_,hm⟩
   .obtain rfl:j=0:=by simpa using hj
    rfl
   .obtain rfl:i=0:=FP
    exact HX0.o
  case round=>
   clear hm;obtain⟨k,A,Y,vl,hk1,hk,rfl,HV,hY,HT,hm⟩:=hrel;have HY:=aa hY;obtain⟨gr,pr,cr,crs,rfl,rfl,hcl⟩:=hY.Z3 FP;have HC:Hid (∀j,j<k->crs.toList[pr+j]?=some (vl.getD j undef)):=λj hj=>hcl j _ (by rw[fU,fe (by rw[HV.o];exact hj)];rfl);clear hY hcl;rcases bF k 15 with hlt|hge
   .have q2:decide ((k:Int)<15)=true:=az;have hc0:=HC.o 0 FP;have hc1:=HC.o (k-1) FP;have hT0:=HT.o 0 FP;have hT1:=HT.o (k-1) FP;obtain⟨va,hva⟩:∃x,x=vl.getD 0 undef:=⟨_,rfl⟩;obtain⟨vb,hvb⟩:∃x,x=vl.getD (k-1) undef:=⟨_,rfl⟩;rw[<-hva]at hc0 hT0;rw[<-hvb]at hc1 hT1;have HT0:Hid (TR (A++([(gr,crs)]++(X0++((go,IR .i64 (OV t) T)::(gl,J .u8 Hf)::(gt,J .i64 t)::rs)))) va (rowP t (OV t) 0) 70368744144896):=aa (hT0.mono λr hr=>(dG.1 hr).elim (jU _) λh=>kU _ (kU _ (jU _ h)))
    have HT1:Hid (TR (A++([(gr,crs)]++(X0++((go,IR .i64 (OV t) T)::(gl,J .u8 Hf)::(gt,J .i64 t)::rs)))) vb (rowP t (OV t) (k-1)) 70368744144896):=aa (hT1.mono λr hr=>(dG.1 hr).elim (jU _) λh=>kU _ (kU _ (jU _ h)));have HK:Hid (ip (rowP t (OV t) 0) (rowP t (OV t) (k-1))=rowP t (OV t) k):=aa (by obtain⟨q,rfl⟩:∃q,k=q+1:=⟨k-1,FP⟩;rfl);clear hva hvb hT0 hT1
    go_wp2_with(first
    |refine wJ 0 ?_
    |refine wJ (k-1) ?_
    |((with_reducible refine g7 ?_);refine uM (hr:=En.app En.head) (hl:=.one vA hc0) ?_)
    |((with_reducible refine g7 ?_);refine uM (hr:=En.app En.head) (hl:=.one vA hc1) ?_)
    |(go_at_call 198;refine(Sp HT0.o HT1.o FP (by rw[HLn.o];have:=r7 s 0;omega) (by rw[HLn.o];have:=r7 s (k-1);omega) hm).mono ?_;clear hm;rintro e w1⟨X,v,rfl,hX,hm⟩;rw[HK.o]at hX;have HX:=aa (TR.Mq hX (by rw[HLn.o];have:=Ah3 s k;omega) (HB2.o k FP));clear hX;obtain⟨⟨gq,pq,cq,cq2,rfl,hq⟩,_⟩:=HX.o;clear hq;simp only[HLn.o]at HX⊢;rw[<-aI X A]at hm)
    |refine Ad rfl (JQ hm rfl HE4.o (Ac rfl) rfl ?_);clear hm;intro w gb hm
    |(refine Ad rfl (GR (A:=(gb,_)::(X++A)) (X:=[(gr,crs)]) hm rfl HE3.o (Ac rfl) HY.o (Ac rfl) (λW h=>From.one (h.row 0 rfl)) (by simp[Value.oneCell']) FP FP FP ?_);clear hm;intro Y2 v2 w hY2 hm;obtain⟨ad3,c5,rfl⟩:=hY2.shape;have HY2:=aa hY2;clear hY2)
    |refine U ?_;try(clear hm;intro w _ hm))
    go_roundw
    case rel=>
     refine⟨k+1,X++A,Y2,vl++[.slice (some ⟨gq,pq,none⟩) (fz s k) cq],FP,FP,by go_num,aa (by rw[aV,HV.o];rfl),HY2.o,aa λi hi=>?_,hm.dropRow⟩;rcases bF i k with h|h
     .rw[SN (by rw[HV.o];exact h),aI];exact(HT.o i h).mono λr hr=>kU X hr
     .obtain rfl:i=vl.length:=by rw[HV.o];omega
      rw[Yd,HV.o,aI];exact HX.o.mono λr hr=>jU _ hr
    case measure=>simp[intOf];omega
   .have q2:decide ((k:Int)<15)=false:=an;go_wp2
    go_loopw[9,10] (λu9 u10 wr=>∃(j m:Nat)(l:ac),j<=15/\u9=.int .i64 m/\u10=.int .i64 (14-(j:Int))/\Hid (dE t (OV t) j=(m,l))/\Own w0 wr (A++([(gr,crs)]++(X0++((go,IR .i64 (OV t) T)::(gl,J .u8 l)::(gt,J .i64 t)::rs)))) ss) (λ_ u10 _=>(intOf u10+2).toNat)
    case atStart=>exact⟨0,2*s-2,Hf,FP,congrArg _ FP,rfl,aa (by rw[dE,HS.o]),hm⟩
    case round=>
     clear hm;obtain⟨j,m,l,hj,rfl,rfl,HJ,hm⟩:=hrel;have hll:l.length=258:=by have:=vR t (OV t) j;rw[HJ.o]at this;exact this
     rcases(show(j<=14/\0<m)\/(j<=14/\m=0)\/j=15 by omega)with⟨hj2,hm0⟩|⟨hj2,hm0⟩|hj2
     .have q3:decide ((0:Int)<=14-j)=true:=az;have q4:decide ((0:Int)<m)=true:=az;have hmb:m<=fz s (14-j):=by have:=OF (t:=t) (o:=OV t) (by rw[<-HS.o];exact hs1) j hj2;rw[HJ.o,<-HS.o]at this;exact this
      have hmb2:m<=516:=by have:=r7 s (14-j);omega
      have hc0:=HC.o (14-j) FP;have hT0:=HT.o (14-j) FP;obtain⟨va,hva⟩:∃x,x=vl.getD (14-j) undef:=⟨_,rfl⟩;rw[<-hva]at hc0 hT0;clear hva;obtain⟨⟨ga,pa,ca,cells,rfl,hca,hga,hcells⟩,_⟩:=hT0;rw[HLn.o]at hca hc0;have HG:Hid (∀R,En (A++([(gr,crs)]++(X0++R))) ga cells cells (A++([(gr,crs)]++(X0++R)))):=λR=>En.nq ((dG.1 hga).elim (jU _) λh=>kU _ (kU _ (jU _ h)));have HD:=aa hcells;clear hga hcells;obtain⟨row,hrow⟩:∃x,x=rowP t (OV t) (14-j):=⟨_,rfl⟩;have HW:=aa hrow;clear hrow
      go_wp2_with(first
      |refine wI (14-j) ?_
      |((with_reducible refine g1 ?_);refine uL hm (hr:=En.app En.head) (hl:=.one vA hc0) ?_)
      |refine A8 rfl (BB (h:=m) rfl HE.o (Ac rfl) (Ac rfl) FP) ?_
      |refine U ?_;try(clear hm;intro w _ hm))
      go_loopw[11,86] (λu11 u86 wr=>∃(i x:Nat)(l2:ac),i<=m/\u86=.int .i64 i/\u11=.int .i64 x/\Hid (eT (OV t) (rowP t (OV t) (14-j)) l i=(x,l2))/\Own w0 wr (A++([(gr,crs)]++(X0++((go,IR .i64 (OV t) T)::(gl,J .u8 l2)::(gt,J .i64 t)::rs)))) ss) (λ_ u86 _=>m-(intOf u86).toNat)
      case atStart=>exact⟨0,0,l,FP,rfl,rfl,aa rfl,hm⟩
      case round=>
       clear hm;obtain⟨i,x,l2,hi,rfl,rfl,HI,hm⟩:=hrel;rcases bF i m with hlt|hge2
       .have q5:decide ((i:Int)<m)=true:=az;obtain⟨hc0,hc1'⟩:=HD.o i Ko;have hl2:l2.length=258:=by have:=sk (OV t) (row:=rowP t (OV t) (14-j)) l i;rw[HI.o]at this;exact this.trans hll
        have hx:x=((rowP t (OV t) (14-j)).take i).countP (·.2):=by have:=r9 (OV t) (row:=rowP t (OV t) (14-j)) l (i:=i) Ko;rw[HI.o]at this;exact this
        have hx1:((rowP t (OV t) (14-j)).take (i+1)).countP (·.2)<=s:=by rw[HS.o,<-Mb t (OV t) (14-j)];exact(List.take_sublist _ _).countP_le
        rw[show(rowP t (OV t) (14-j)).take (i+1)=(rowP t (OV t) (14-j)).take i++[bI (rowP t (OV t) (14-j)) i] by have:=zP (rowP t (OV t) (14-j)) (dD i) Ko;simpa using this,jJ,<-hx]at hx1;have HN:Hid (eT (OV t) (rowP t (OV t) (14-j)) l (i+1)=if(bI (rowP t (OV t) (14-j)) i).2=true then(x+1,l2.set (gi (OV t) x).toNat (IntKind.u8.wrap (gi l2 (gi (OV t) x).toNat+1)))else(x,l2)):=aa (by rw[eT,HI.o]);clear hx;obtain⟨p,hp⟩:∃p,p=bI (rowP t (OV t) (14-j)) i:=⟨_,rfl⟩;rw[<-hp]at hc0 hc1' hx1 HN;clear hp;obtain⟨pv,pb⟩:=p;cases pb with
       |false=>
         go_wp2_with(first
         |refine vI i ?_
         |((with_reducible refine g1 ?_);refine uL hm (hr:=HG.o _) (hl:=.two (ag rfl) hc0 hc1') ?_)
         |((with_reducible refine g4 ?_);refine uA hm (hz:=tj) ?_;clear hm;intro w gp hm)
         |refine U ?_;try(clear hm;intro w _ hm))
         go_roundw
         case rel=>exact⟨i+1,x,l2,FP,by go_num,rfl,aa (by rw[HN.o,aP G5]),hm.dropRow⟩
         case measure=>simp[intOf];omega
       |true=>
         have hxs:x<s:=by simp at hx1;omega
         have hxo:x<(OV t).length:=by rw[<-HS.o];exact hxs
         obtain⟨ha0,ha1⟩:=ho.out (gi (OV t) x) (cI _ x hxo);obtain⟨a,ha⟩:=dB ha0;have ha2:a<258:=FP
         have HN2:Hid (eT (OV t) (rowP t (OV t) (14-j)) l (i+1)=(x+1,l2.set a (IntKind.u8.wrap (gi l2 a+1)))):=aa (by rw[HN.o,aQ rfl,ha];rfl);clear hx1 HN ha0 ha1
         go_wp2_with(first
         |refine vI i ?_
         |refine uI x ?_
         |refine uH a ?_
         |((with_reducible refine g1 ?_);refine uL hm (hr:=HG.o _) (hl:=.two (ag rfl) hc0 hc1') ?_)
         |((with_reducible refine g4 ?_);refine uA hm (hz:=tj) ?_;clear hm;intro w gp hm)
         |refine U ?_;try(clear hm;intro w _ hm))
         go_roundw
         case rel=>exact⟨i+1,x+1,_,FP,by go_num,by go_num,HN2,hm.dropRow⟩
         case measure=>simp[intOf];omega
       .obtain rfl:i=m:=FP
        have hx:x<=i:=by
         have:=r9 (OV t) (row:=rowP t (OV t) (14-j)) l (i:=i) Ko;have h2:=xE (p:=(·.2)) (l:=(rowP t (OV t) (14-j)).take i);rw[fZ]at h2;rw[HI.o]at this;simp only at this;omega
        have HN:Hid (dE t (OV t) (j+1)=(2*(i-x),l2)):=aa (by rw[dE,HJ.o];simp only;rw[HI.o]);have q5:decide ((i:Int)<i)=false:=an
        go_wp2_with(refine U ?_;try(clear hm;intro w _ hm))
        go_roundw
        case rel=>exact⟨j+1,2*(i-x),l2,FP,congrArg _ FP,congrArg _ FP,HN,hm⟩
        case measure=>simp[intOf];omega
     .have q3:decide ((0:Int)<=14-j)=true:=az;have q4:decide ((0:Int)<m)=false:=an
      have HQ:Hid (l=gj t):=aa (by
       have h:=Li (t:=t) (o:=OV t) (j:=j) (by rw[HJ.o];exact hm0) (15-j);rw[show j+(15-j)=15 by omega,HJ.o]at h
       rw[gj,aP L8,h])
      exact Pi
     .have q3:decide ((0:Int)<=14-j)=false:=an;have HQ:Hid (l=gj t):=aa (by rw[gj,aP L8,<-hj2,HJ.o])
      exact Pi
end
section
variable{news:ar}{e g k n t tn:Nat}{x y:O7}{i:Oy}{z:NY}
section
variable{P:O8}{o:Oz}{a:OA}{w w0:FC}{rs:ae}{ss:O1}{K:Value->FC->Prop}
def Zf{bytes:Nat}(hm:Own w0 w rs ss)(ho:o.op=.call {callee:=.builtin .append,args:=#[x,y],argTypes:=#[t,tn]})(he:OW P t e 1 bytes i z)(htn:P.underlying tn=some (.int .i64))(hx:a.eval x=.slice none 0 0)(hy:a.eval y=.int .i64 n)(h0:0<n)(hb:n*bytes<=140737488355328)(hn:n<=140737488355328)
  (h:∀w' g c cells,n<=c->cells.size=c->Own w0 w' ((g,cells)::rs) ss->K (.slice (some ⟨g,0,none⟩) n c) w'):Eff P o a w K:=by
 have hr:=Lib.run_append_nil_zeros w t tn o.type e i z .i64 .i64 he.under htn he.info he.zero n h0 J3 FP (by rw[he.bytes];omega);have hge:=xk w n 0 e;refine Eff.val (v:=.slice (some ⟨w.heap.size,0,none⟩) n (grownCap w n 0 e)) (w':=w.drew.alloc (.cells (Builtin.zeroCells z.cells n++Builtin.zeroCells z.cells (grownCap w n 0 e-n)) e)) LC (h _ _ _ (Builtin.zeroCells z.cells n++Builtin.zeroCells z.cells (grownCap w n 0 e-n)) hge ?_ ((hm.drawn (w.drawn+1)).alloc _ e));rw[zB,tZ,tZ,he.zs];omega
end
def a19(h0:0<n)(hn:n<=1000000){w0 w:FC}{rs:ae}{ss:O1}(hm:Own w0 w rs ss):ak 230 #[.slice none 0 0,.int .i64 n] w λe w'=>∃X v,e=.returned v/\Lies 1 X v 0 []/\Own w0 w' (X++rs) ss:=by
 obtain⟨i5,hE⟩:=nP;have HE:=aa hE;clear hE;have q1:decide ((n:Int)<0)=false:=an;have q2:decide (0<(n:Int))=true:=az;go_enter func230,ntmps230
 go_wp2_with(first
 |refine Ad rfl (Zf (n:=n) hm rfl HE.o (by rfl) (Ac rfl) (Ac rfl) h0 FP FP ?_);clear hm;intro w g c cells hc hsz hm
 |refine A8 rfl (BB (h:=0) rfl HE.o (Ac rfl) (Ac rfl) FP) ?_
 |refine U ?_;try(clear hm;intro w _ hm))
 go_ret;exact⟨[(g,cells)],_,rfl,⟨rfl,.inr ⟨g,0,c,cells,rfl,rfl,FP,FP,λj hj=>absurd hj G5⟩⟩,hm⟩
def eE(ls:List ac)(k:Nat):ac:=(ls.take k).flatten
def WT{ls:List ac}(h:k<ls.length):eE ls (k+1)=eE ls k++ls.getD k []:=by
 rw[eE,kW h,vg,eE];simp[List.getD,h]
def YD{ls:List ac}(h:k<=ls.length):(eE ls k).length<=ls.flatten.length:=by
 have:ls.flatten=eE ls k++(ls.drop k).flatten:=by rw[eE,<-vg,kC]
 rw[this,aV];omega
def From.shape{w:FC}{v:NY}(h:From 1 w v k news):∃ad c,v=.slice ad k c:=by
 rcases h.2 with⟨rfl,rfl,_⟩|⟨ad,c,rfl,_⟩
 .exact⟨none,0,rfl⟩
 .exact⟨_,_,rfl⟩
def concat(ls:List ac)(vl:ar)(m:Nat)(hls:ls.length=m)(hvl:vl.length=m)(h0:0<ls.flatten.length)(hn:ls.flatten.length<=1000000)(hm0:m<=1000000){w0 w:FC}{rs:ae}{ss:O1}(hin:∀k,k<m->∀W,Own w0 W rs ss->From 1 W (vl.getD k undef) (ls.getD k []).length (vs .u8 (ls.getD k [])))(hm:Own w0 w ((g,vl.toArray)::rs) ss):ak 190 #[.slice g m m] w (oe w0 ls.flatten rs ss):=by
 have hsh:Hid (∀k,k<m->∃ad c,vl.getD k undef=.slice ad (ls.getD k []).length c):=λk hk=>(hin k hk w hm.dropRow).shape;have HI:=aa hin
 have HC:Hid (∀k,k<m->vl.toArray.toList[k]?=some (vl.getD k undef)):=λk hk=>by
  rw[fU];simp[show k<vl.length by omega]
 have HK:Hid (∀k,k<m->eE ls (k+1)=eE ls k++ls.getD k []):=λk hk=>WT FP;have HLE:Hid (∀k,k<=m->(eE ls k).length<=ls.flatten.length):=λk hk=>YD FP;have HE0:Hid (eE ls m=ls.flatten):=aa (by rw[eE,<-hls,gY]);obtain⟨n,hnn⟩:∃n,n=ls.flatten.length:=⟨_,rfl⟩;have HN:=aa hnn;have hlm:(eE ls m).length=n:=by rw[HE0.o,hnn]
 rw[<-hnn]at h0 hn;obtain⟨i5,hE⟩:=nP;have HE:=aa hE;clear hin hE hls hvl hnn;go_enter func190,ntmps190;go_wp2
 go_loopw[3,11] (λu3 u11 wr=>∃(k x:Nat),k<=m/\u11=.int .i64 k/\u3=.int .i64 x/\Hid (x=(eE ls k).length)/\Own w0 wr ((g,vl.toArray)::rs) ss) (λ_ u11 _=>m-(intOf u11).toNat)
 case atStart=>exact⟨0,0,FP,rfl,rfl,aa rfl,hm⟩
 case round=>
  clear hm;obtain⟨k,x,hk,rfl,rfl,HX,hm⟩:=hrel;rcases bF k m with hlt|hge
  .have q1:decide ((k:Int)<m)=true:=az;have hck:=HC.o k hlt;obtain⟨ad,c,hv⟩:=hsh.out k hlt;rw[hv]at hck
   have hx1:x+(ls.getD k []).length<=n:=by
    have h1:=HLE.o (k+1) FP;rw[HK.o k hlt,aV,<-HX.o,<-HN.o]at h1;exact h1
   have HX2:Hid (x+(ls.getD k []).length=(eE ls (k+1)).length):=aa (by rw[HK.o k hlt,aV,HX.o]);generalize (ls.getD k []).length=y at*;have q2:decide ((x:Int)+y<0)=false:=an;clear hv
   go_wp2_with(first
   |refine uI k ?_
   |((with_reducible refine g1 ?_);refine uL hm (hl:=.one (ot rfl) hck) ?_)
   |refine U ?_;try(clear hm;intro w _ hm))
   go_roundw
   case rel=>exact⟨k+1,x+y,FP,by go_num,by go_num,HX2,hm⟩
   case measure=>simp[intOf];omega
  .obtain rfl:k=m:=FP
   have q1:decide ((k:Int)<k)=false:=an;obtain rfl:x=n:=by rw[HX.o];exact hlm
   go_wp2_with(first
   |(go_at_call 230;refine(a19 h0 hn hm).mono ?_;clear hm;rintro e w1⟨X,v,rfl,hX,hm⟩;obtain⟨ad,c,rfl⟩:=hX.shape;have HX0:=aa hX;clear hX)
   |refine U ?_;try(clear hm;intro w _ hm))
   go_loopw[6,27] (λu6 u27 wr=>∃(j y:Nat)(Y:ae),j<=k/\u27=.int .i64 j/\Hid (y=(eE ls j).length)/\Lies 1 Y u6 y (vs .u8 (eE ls j))/\Own w0 wr (Y++((g,vl.toArray)::rs)) ss) (λ_ u27 _=>k-(intOf u27).toNat)
   case atStart=>exact⟨0,0,X,FP,rfl,aa rfl,HX0.o,hm⟩
   case round=>
    clear hm HX0;obtain⟨j,y,Y,hj,rfl,HY0,hY,hm⟩:=hrel;obtain⟨ad2,c2,rfl⟩:=hY.shape;have HY:=aa hY;clear hY;rcases bF j k with hlt|hge2
    .have q2:decide ((j:Int)<k)=true:=az;have hck:=HC.o j hlt;obtain⟨ad3,c3,hv⟩:=hsh.out j hlt;have hF:Hid (∀W,Own w0 W (Y++((g,vl.toArray)::rs)) ss->From 1 W (vl.getD j undef) (ls.getD j []).length (vs .u8 (ls.getD j []))):=λW h=>HI.o j hlt W ((h.sub (bG Y _) (aY _)).dropRow);rw[hv]at hck hF
     have hx1:y+(ls.getD j []).length<=x:=by
      have h1:=HLE.o (j+1) FP;rw[HK.o j hlt,aV,<-HY0.o,<-HN.o]at h1;exact h1
     have HX2:Hid (y+(ls.getD j []).length=(eE ls (j+1)).length):=aa (by rw[HK.o j hlt,aV,HY0.o]);have HX3:Hid (vs .u8 (eE ls (j+1))=vs .u8 (eE ls j)++vs .u8 (ls.getD j [])):=aa (by rw[HK.o j hlt,qy]);generalize ls.getD j []=lj at*;clear hv
     go_wp2_with(first
     |refine uI j ?_
     |((with_reducible refine g1 ?_);refine uL hm (hr:=En.app En.head) (hl:=.one (ot rfl) hck) ?_)
     |(refine Ad rfl (GR (A:=[]) (X:=Y) hm rfl HE.o (Ac rfl) HY.o (Ac rfl) hF.out (Ic _ _) FP FP FP ?_);clear hm;intro Y2 v3 w hY2 hm;obtain⟨ad4,c4,rfl⟩:=hY2.shape;have HY2:=aa hY2;clear hY2)
     |refine U ?_;try(clear hm;intro w _ hm))
     go_roundw
     case rel=>exact⟨j+1,_,Y2,FP,by go_num,HX2,by rw[HX3.o];exact HY2.o,hm⟩
     case measure=>simp[intOf];omega
    .obtain rfl:j=k:=FP
     have q2:decide ((j:Int)<j)=false:=an;go_wp2;go_ret;refine⟨Y,_,rfl,?_,hm.sub (zD (lV _ _) Y) (aY _)⟩;have h:=HY.o;rw[HY0.o,HE0.o]at h;rw[HY0.o,HE0.o];exact h
end
section
variable{c:Int}{l1 l2 l3:ac}{ss:O1}{m n:Nat}{X1 X2 X3 rs:ae}{v1 v2 v3:NY}{w w0:FC}
def ZC:∀{x:ac},x≠[]->1<=(cF x).2
|[],h=>absurd rfl h
|c::t,_=>by rw[cF,lO];omega
def mH(m ix:Nat)(c:Int):ac:=[[1],cn m,cn ix,cj c].flatten
def WQ{gp:Nat}(h1:Lies 1 X1 v1 l1.length (vs .u8 l1))(h2:Lies 1 X2 v2 l2.length (vs .u8 l2))(h3:Lies 1 X3 v3 l3.length (vs .u8 l3)):∀k,k<4->∀W,Own w0 W (X3++((gp,#[.int .u8 1])::(X2++(X1++rs)))) ss->From 1 W ([.slice gp 1 1,v1,v2,v3].getD k undef) ([[1],l1,l2,l3].getD k []).length (vs .u8 ([[1],l1,l2,l3].getD k [])):=λk hk W h=>by
 rcases(show k=0\/k=1\/k=2\/k=3 by omega)with rfl|rfl|rfl|rfl
 .exact(Lies.whole (xs:=vs .u8 [1]) rfl).from (A:=X3) (X:=[(gp,#[.int .u8 1])]) h
 .exact h1.from (A:=X3++([(gp,#[.int .u8 1])]++X2)) (by rw[aI,aI];exact h)
 .exact h2.from (A:=X3++[(gp,#[.int .u8 1])]) (by rw[aI];exact h)
 .exact h3.from (A:=[]) h
def ZS{ix:Nat}(h1:n<=65536)(h2:1<=m)(h3:m<=n)(h4:1<=ix)(h5:ix<=m)(c0:0<=c)(c1:c<=4294967295)(hm:Own w0 w rs ss):ak 153 #[.int .i64 n,.agg #[.int .i64 m,.int .i64 ix,.int .u32 c]] w (kh w0 (mH m ix c) (.int .i64 0) rs ss):=by
 have CN:Hid (∀{W}{rs},Own w0 W rs ss->ak 185 #[.int .i64 m,.int .i64 n] W (kh w0 (cn m) (.bool true) rs ss)):=λh=>wh n h2 h3 h1 h;have CI:Hid (∀{W}{rs},Own w0 W rs ss->ak 185 #[.int .i64 ix,.int .i64 m] W (kh w0 (cn ix) (.bool true) rs ss)):=λh=>wh m h4 h5 FP h;have CP:Hid (∀{W}{rs},Own w0 W rs ss->ak 161 #[.int .u32 c] W (oe w0 (cj c) rs ss)):=λh=>AE c0 c1 h;have w1:wi n 1 65536=true:=Eu FP FP;have hm5:=(ka m FP).1;have hi5:=(ka ix FP).1;have hc4:(cj c).length<=4:=aX 4;have HD:Hid (mH m ix c=[[1],cn m,cn ix,cj c].flatten):=aa rfl;rw[HD.o];generalize cn m=lm at*;generalize cn ix=li at*;generalize cj c=lc at*;obtain⟨i5,hE⟩:=wO;have HE:=aa hE;obtain⟨i6,hE6⟩:=xc;have HL6:=aa hE6;clear hE hE6 HD
 go_enter func153,ntmps153
 go_wp2_with(first
 |(go_at_call 185;have _t:=hm;refine(CN.o hm).mono ?_;clear _t hm CN;rintro e w⟨X1,v1,rfl,hX1,hm⟩;obtain⟨ad1,k1,rfl⟩:=hX1.shape;have HX1:=aa hX1;clear hX1)
 |(go_at_call 185;have _t:=hm;refine(CI.o hm).mono ?_;clear _t hm CI;rintro e w⟨X2,v2,rfl,hX2,hm⟩;obtain⟨ad2,k2,rfl⟩:=hX2.shape;have HX2:=aa hX2;clear hX2)
 |(go_at_call 161;have _t:=hm;refine(CP.o hm).mono ?_;clear _t hm CP;rintro e w⟨X3,v3,rfl,hX3,hm⟩;obtain⟨ad3,k3,rfl⟩:=hX3.shape;have HX3:=aa hX3;clear hX3)
 |go_at_call 100;refine MW (FX _ _ _ _) ?_
 |refine Ad rfl (JQ hm rfl HL6.o nS rfl ?_);clear hm;intro w gp hm
 |refine Ad rfl (Zs hm rfl HE.o (Ac rfl) (Ac rfl) (Ac rfl) (Ac rfl) rfl rfl rfl rfl ?_);clear hm;intro w gr hm
 |go_at_call 190;refine(concat [[1],lm,li,lc] [_,_,_,_] 4 rfl rfl G5 G8 FP (WQ HX1.o HX2.o HX3.o) hm).mono ?_;clear hm;rintro e w⟨X4,v4,rfl,hX4,hm⟩
 |refine U ?_;try(clear hm;intro w gb hm))
 go_ret2
 refine⟨X4,v4,rfl,hX4,hm.sub (zD ?_ X4) (aY _)⟩;exact(((((lV _ rs).trans (bG X1 _)).trans (bG X2 _)).trans (lV _ _)).trans (bG X3 _))
end
section
variable{b:OA}{bg cl:Bool}{ca cb m mode zz:Int}{qk:Ob}{sp:ac}{T:ar}{c g ga ge gs k n p:Nat}{o:Oz}{x y:O7}{ty:O4}
abbrev gm(n m:Nat)(mode:Int)(ga gs k c:Nat)(cb ca:Int)(bg cl:Bool):ai:=#[.int .i64 n,.int .i64 m,.int .u8 mode,.pointer (some ⟨ga,0,none⟩),.slice (some ⟨gs,0,none⟩) k c,.int .u32 cb,.int .u32 ca,.bool bg,.bool cl]
section
variable{ops:bl}{Q:Exit->aJ}{a:OA}{w w0:FC}{rs:ae}{ss:O1}{rest:bt}{js:OB}{i:Nat}{ks:b9}
def a1N(k:Nat){dst:Oo}{pos:String}{af:Ot}{gd:Oq}(h:wpList prog ops Q rest b w)(hg:MZ ⟨dst,.indexAddr 102 x y,ty,pos,af,gd⟩ ops a:=by exact Gx)
  (hx:a.eval x=.slice (some ⟨g,p,none⟩) n c:=by exact Gx)(hy:a.eval y=.int qk zz:=by exact Nl)(hz:zz=k:=by omega)(hk:k<n:=by omega)
  (hb:a.put dst (.pointer (some ⟨g,p+k*2,none⟩))=b:=by exact gJ):wpList prog ops Q (⟨dst,.indexAddr 102 x y,ty,pos,af,gd⟩::rest) a w:=by
 obtain⟨q,he⟩:=mz;exact A8 hg (ix rfl he hx hy hz hk) (hb▸h)
def xJ(k:Nat){dst:Oo}{pos:String}{af:Ot}{gd:Oq}(h:bA prog ops Q ks w0 rs ss js b w)(hg:MZ ⟨dst,.indexAddr 102 x y,ty,pos,af,gd⟩ ops a:=by exact Gx)
  (hx:a.eval x=.slice (some ⟨g,p,none⟩) n c:=by exact Gx)(hy:a.eval y=.int qk zz:=by exact Nl)(hz:zz=k:=by omega)(hk:k<n:=by omega)
  (hb:a.put dst (.pointer (some ⟨g,p+k*2,none⟩))=b:=by exact gJ):bA prog ops Q ks w0 rs ss ((i,⟨dst,.indexAddr 102 x y,ty,pos,af,gd⟩)::js) a w:=by
 obtain⟨q,he⟩:=mz;exact LL
end
def RJ{a:OA}{w:FC}(ho:o.op=.build 50 #[(0,x),(1,y)]){n:Int}(hx:a.eval x=.int .i64 n)(hy:a.eval y=.int .i64 m):(execOp a.eval o).run prog w=.ok (.value (.agg #[.int .i64 n,.int .i64 m])) w:=
 Dq ho GV
def zg{m:Nat}{i:Nat}(hi:i<k)(hk:k*2<=sp.length){w0 w:FC}{rs:ae}{ss:O1}(h1:(ge,gm n m mode ga gs k c cb ca bg cl)∈rs)(h2:(gs,IR .i64 sp T)∈rs)(hm:Own w0 w rs ss):ak 187 #[ge,.int .i64 i] w (RO (.agg #[.int .i64 (gi sp (i*2)),.int .i64 m]) w0 rs ss):=by
 have HE:=aa (En.nq h1);have HS:=aa (En.nq h2);clear h1 h2;go_enter func187,ntmps187
 go_wp2_with(first
 |refine xJ i ?_
 |((with_reducible refine g7 ?_);refine uM (hr:=En.tail HE.o) (hl:=.one (ot rfl) Gx) ?_)
 |((with_reducible refine g7 ?_);refine uM (hr:=En.tail HS.o) (hl:=.ints (ot rfl) FP) ?_)
 |((with_reducible refine g6 ?_);refine j1 rfl rfl (λW=>RJ rfl rfl rfl) ?_)
 |refine U ?_;try(clear hm;intro w gp hm))
 exact aD (AQ rfl rfl (hm.row 0 rfl) (ag rfl)) rfl ⟨rfl,hm.dropRow⟩
end
section
variable{bg cl:Bool}{ca cb live mode peak:Int}{a b sp x:ac}{ss:O1}{T:ar}{N c ga ge gs gx i k n:Nat}{rs:ae}{w w0:FC}
def KM(h:i<a.length):gi (a++b) i=gi a i:=by
 simp[gi,kF h]
def Rc(h:i<a.length)(v:Int):(a++b).set i v=a.set i v++b:=zk _ _ h
abbrev bB(ge ga gs gx n m:Nat)(mode:Int)(k c:Nat)(cb ca:Int)(bg cl:Bool)(sp:ac)(T:ar)(live peak:Int)(N:Nat)(l:ac)(rs:ae):ae:=(ge,gm n m mode ga gs k c cb ca bg cl)::(gs,IR .i64 sp T)::(ga,AR (.slice (some ⟨gx,0,none⟩) N N) live peak)::(gx,B l)::rs
def Sb{d:ac}(hx:1<=x.length)(hxn:x.length<=n)(hk:0<k)(hs:k*2<=sp.length)(h0:gi sp 0=0)(h1:gi sp 1=n)(hN:(x++d).length=N)(hN2:N<=1048576)(hl1:(n:Int)<=live)(hl2:live<=N)(hm:Own w0 w (bB ge ga gs gx n x.length mode k c cb ca bg cl sp T live peak N (x++d) rs) ss):ak 152 #[ge] w λe w'=>(∃u,e=.returned u)/\Own w0 w' (bB ge ga gs gx n x.length mode k c cb ca bg cl sp T live peak N (x.reverse++d) rs) ss:=by
 obtain⟨m,hmm⟩:∃m,m=x.length:=⟨_,rfl⟩;have HM:=aa hmm;rw[<-hmm]at hx hxn hm⊢;have hs0:(IR .i64 sp T).toList[0]?=some (.int .i64 0):=by rw[cE,kz FP,h0]
 have hs1:(IR .i64 sp T).toList[1]?=some (.int .i64 n):=by rw[cE,kz FP,h1]
 have CB:Hid (∀W(zi:Int)(i:Nat)(y:ac)g,zi=i->y.length=m->i<m->Own w0 W ((g,SP 0 n)::bB ge ga gs gx n m mode k c cb ca bg cl sp T live peak N (y++d) rs) ss->ak 116 #[ga,.agg (SP 0 n),.int .i64 zi] W (RO (.tuple #[.int .u8 (gi y i),.bool true]) w0 ((g,SP 0 n)::bB ge ga gs gx n m mode k c cb ca bg cl sp T live peak N (y++d) rs) ss)):=λW zi i y g hz hy hi h=>by
  subst hz;have hN3:(y++d).length=N:=by rw[aV,hy,hmm,<-aV];exact hN
  refine(k8 ga 0 n i (y++d) live peak (by rw[hN3];exact h.row 3 rfl) (h.row 4 rfl) FP FP FP FP).mono ?_;rintro e w'⟨rfl,hb⟩;exact⟨by rw[dA,KM FP],h.call hb⟩
 have CS:Hid (∀W(zi:Int)(i:Nat)(y:ac)g v,zi=i->y.length=m->i<m->Own w0 W ((g,SP 0 n)::bB ge ga gs gx n m mode k c cb ca bg cl sp T live peak N (y++d) rs) ss->ak 189 #[ga,.agg (SP 0 n),.int .i64 zi,.int .u8 v] W (RO (.bool true) w0 ((g,SP 0 n)::bB ge ga gs gx n m mode k c cb ca bg cl sp T live peak N (y.set i v++d) rs) ss)):=λW zi i y g v hz hy hi h=>by
  subst hz;have hN3:(y++d).length=N:=by rw[aV,hy,hmm,<-aV];exact hN
  refine(sM 0 i (y++d) v live peak 3 4 h (by rw[hN3];rfl) rfl FP FP FP FP).mono ?_;rintro e w'⟨rfl,h2⟩;refine⟨rfl,?_⟩;rw[dA,Rc FP]at h2;exact h2
 have HS0:=aa hs0;have HS1:=aa hs1;clear hs0 hs1 h0 h1 hN hmm;go_enter func152,ntmps152
 go_wp2_with(first
 |refine a1N 0 ?_
 |((with_reducible refine g1 ?_);refine uL hm (hl:=.two (ag rfl) HS0.o HS1.o) ?_)
 |((with_reducible refine g4 ?_);refine uA hm (hz:=nf) ?_;clear hm;intro w gp hm)
 |refine U ?_;try(clear hm;intro w _ hm))
 simp only[qj,mW]
 go_loopw[3,4] (λu3 u4 wr=>∃(i j:Nat),j+1+i=m/\i<=j+1/\u3=.int .i64 i/\u4=.int .i64 j/\Own w0 wr ((gp,SP 0 n)::bB ge ga gs gx n m mode k c cb ca bg cl sp T live peak N (dm x i++d) rs) ss) (λu3 _ _=>m-(intOf u3).toNat)
 case atStart=>exact⟨0,m-1,FP,FP,rfl,congrArg _ FP,by rw[Rw];exact hm⟩
 case round=>
  clear hm;obtain⟨i,j,hij,hij2,rfl,rfl,hm⟩:=hrel;have hly:(dm x i).length=m:=by rw[F7];exact HM.o.symm
  rcases bF i j with hlt|hge
  .have q1:decide ((i:Int)<j)=true:=az
   have HV:Hid (((dm x i).set i (gi (dm x i) j)).set j (gi (dm x i) i)=dm x (i+1)):=aa (by
    have:=rY x i Lh
    rwa[show x.length-1-i=j by rw[<-HM.o];omega]at this)
   generalize dm x i=y at*;have hly2:∀v:Int,(y.set i v).length=m:=λv=>by rw[cO];exact hly
   go_wp2_with(first
   |((with_reducible refine g5 ?_);refine uT [] [] hm ?_;clear hm;intro w _ hm)
   |go_at_call 116;refine MP (CB.o _ _ i y gp FP hly FP hm) ?_;clear hm;intro w hm
   |go_at_call 116;refine MP (CB.o _ _ j y gp FP hly FP hm) ?_;clear hm;intro w hm
   |go_at_call 189;refine MP (CS.o _ _ i y gp _ FP hly FP hm) ?_;clear hm;intro w hm
   |go_at_call 189;refine MP (CS.o _ _ j _ gp _ FP (hly2 _) FP hm) ?_;clear hm;intro w hm
   |refine U ?_;try(clear hm;intro w _ hm))
   go_roundw
   case rel=>exact⟨i+1,j-1,FP,FP,by go_num,congrArg _ FP,by rw[<-HV.o];exact hm⟩
   case measure=>simp[intOf];omega
  .have q1:decide ((i:Int)<j)=false:=an;have HV:Hid (dm x i=x.reverse):=aa (B8 x i Lh Lh);rw[HV.o]at hm;go_wp2
   go_end0
   exact⟨⟨_,rfl⟩,hm.dropRow⟩
end
section
variable{bg cl:Bool}{ca cb live mode peak:Int}{sp x:ac}{ss:O1}{T:ar}{N c ga ge gs gx k n:Nat}{rs:ae}{w w0:FC}
structure EO(N a:Nat)(x l:ac):Prop where
 len:l.length=N
 byt:Bytes l
 col:seg l a (a+x.length)=(cF x).1
def sT{α:Type}(a b c d e:α)(r:List α):(a::b::c::d::e::r).Perm (d::e::a::b::c::r):=
 (gK (l₁:=[a,b,c]) (l₂:=[d,e])).append_right r
def PY{d:ac}(hx:1<=x.length)(hxn:x.length<=n)(hn:n<=65536)(hk:0<k)(hs:k*2<=sp.length)(h0:gi sp 0=0)(hN:(x++d).length=N)(hN2:N<=1048576)(hl1:(n:Int)<=live)(hl2:live<=N)(hb:Bytes (x++d))(hm:Own w0 w (bB ge ga gs gx n x.length mode k c cb ca bg cl sp T live peak N (x++d) rs) ss):ak 150 #[ge] w λe w'=>∃l',e=.returned (.tuple #[.agg #[.int .i64 0,.int .i64 x.length],.int .i64 (cF x).2])/\EO N 0 x l'/\Own w0 w' (bB ge ga gs gx n x.length mode k c cb ca bg cl sp T live peak N l' rs) ss:=by
 obtain⟨m,hmm⟩:∃m,m=x.length:=⟨_,rfl⟩
 have CP:Hid (∀W g cs l,Own w0 W ((g,cs)::bB ge ga gs gx n m mode k c cb ca bg cl sp T live peak N l rs) ss->ak 187 #[ge,.int .i64 0] W (RO (.agg #[.int .i64 0,.int .i64 m]) w0 ((g,cs)::bB ge ga gs gx n m mode k c cb ca bg cl sp T live peak N l rs) ss)):=λW g cs l h=>by
  have:=zg (i:=0) hk hs (fB _ eP) (fB _ (fB _ eP)) h;rw[qj,h0]at this;exact this
 have CT:Hid (∀W g cs,Own w0 W ((g,cs)::bB ge ga gs gx n m mode k c cb ca bg cl sp T live peak N (x++d) rs) ss->ak 186 #[ga,.agg #[.int .i64 0,.int .i64 m]] W λe w'=>∃(st:Int)(l':ac),e=.returned (.tuple #[.int .i64 (cF x).2,.int .i64 st,.int .i64 0])/\EO N 0 x l'/\Own w0 w' ((g,cs)::bB ge ga gs gx n m mode k c cb ca bg cl sp T live peak N l' rs) ss):=λW g cs h=>by
  have h:=h.perm (sT _ _ _ _ _ _).symm;rw[<-hN]at h;refine(Xz 0 (x++d) h FP FP FP FP FP hb).mono ?_;rintro e w'⟨ix,st,l',rfl,hI,h2⟩
  have hsg:seg (x++d) 0 (0+m)=x:=by
   simp[seg,hmm]
  have hlen:l'.length=N:=hI.len.trans hN;have hc:=hI.col;have hi:=hI.ix;rw[iV,hsg,wE]at hc hi;refine⟨st,l',by rw[hi],⟨hlen,hI.byt,by rw[<-hmm];simpa using hc⟩,?_⟩;rw[hlen]at h2;exact h2.perm (sT _ _ _ _ _ _)
 rw[<-hmm]at hm⊢;clear hs h0 hN hb hmm;go_enter func150,ntmps150
 go_wp2_with(first
 |((with_reducible refine g5 ?_);refine uT [5] [] hm ?_;clear hm;intro w _ hm)
 |go_at_call 187;refine MP (CP.o _ _ _ _ hm) ?_;clear hm;intro w hm
 |go_at_call 186;refine(CT.o _ _ _ hm).mono ?_;clear hm;rintro e w⟨st,l',rfl,hEO,hm⟩
 |refine U ?_;try(clear hm;intro w gp hm))
 exact Fl
end
section
variable{cs ns:ai}{news xs:ar}{e g k n off s t:Nat}{x y:O7}{ty:O4}{i q:Oy}{sv z:NY}
def I9(g:Nat):∀(vs:ar)(o:Nat)(w:FC),KeepsOthers w (w.setCells g o vs)
|[],o,w=>KeepsOthers.refl w
|v::vs,o,w=>(KeepsOthers.setCell w ⟨g,o,none⟩ v).trans (I9 g vs (o+1) _)
section
variable{P:O8}{w0 w:FC}{A X rs:ae}{ss:O1}{o:Oz}{a:OA}{K K1 K2:Value->FC->Prop}
def Eff.both(h1:Eff P o a w K1)(h2:Eff P o a w K2):Eff P o a w λv w'=>K1 v w'/\K2 v w':=by
 obtain⟨v1,w1,e1,k1⟩:=h1;obtain⟨v2,w2,e2,k2⟩:=h2;rcases e1 with e1|⟨e1,rfl⟩<;>rcases e2 with e2|⟨e2,rfl⟩<;>rw[e1]at e2<;>cases e2
 .exact⟨_,_,.inl e1,k1,k2⟩
 .exact⟨_,_,.inr ⟨e1,rfl⟩,k1,k2⟩
def Eff.vE(h:Eff P o a w K1)(hk:∀v w',K1 v w'->K2 v w'):Eff P o a w K2:=by
 obtain⟨v,w',e,k⟩:=h;exact⟨v,w',e,hk _ _ k⟩
def Z0(v:NY):Prop:=∀g p m c,v=.slice (some ⟨g,p,none⟩) m c->p=0
def FR{bytes:Nat}(hm:Own w0 w (A++(X++rs)) ss)(ho:o.op=.call {callee:=.builtin .append,args:=#[x,y],argTypes:=#[t,t]})(he:OW P t e s bytes i z)
  {v:NY}(hx:a.eval x=v)(hX:Lies s X v n xs)(hy:a.eval y=sv)(hs:∀W,Own w0 W (A++(X++rs)) ss->From s W sv k news)(h1:∀u∈news,u.oneCell'=true)(hb:(n+k)*bytes<=140737488355328)(h63:n+k<=281474976710656)(hs0:0<s):Eff P o a w λv' w'=>KeepsOthers w w'/\(Z0 v->Z0 v'):=by
 have hF:=hs w hm;have hFD:=hs w.drew (by exact hm.drawn _);have hlen:(xs++news).length=(n+k)*s:=by rw[aV,hX.1,hF.1,oh]
 suffices hh:∃v' w',(Builtin.append_ #[t,t] o.type #[v,sv]).run P w=.ok v' w'/\KeepsOthers w w'/\(Z0 v->Z0 v') by
  exact L5
 have hsrc:∀j:Unit,Go.Src P i.size t sv k news w:=λ_=>by
  exact vn
 have grow:∀(base:Ov)(sCap:Nat),sCap<n+k->(Builtin.firstCells i.size n (.slice base n sCap)).run P w.drew=.ok xs.toArray w.drew->v=.slice base n sCap->∃v' w',(Builtin.append_ #[t,t] o.type #[v,sv]).run P w=.ok v' w'/\KeepsOthers w w'/\(Z0 v->Z0 v'):=by
  intro base sCap hg hold hv;have hr:=run_append_grow_src w t t o.type e i z he.under he.info he.zero base n sCap xs hold sv k news (hsrc ()) hg FP (tY hg IV);rw[hv];refine⟨_,_,hr,?_⟩;exact⟨(KeepsOthers.drew w).trans (KeepsOthers.alloc _ _),λ_ g p m c e=>by cases e;rfl⟩
 rcases hX.2 with⟨rfl,rfl,rfl,rfl⟩|⟨g,p,c,cells,rfl,rfl,hnc,hsz,hcells⟩
 .by_cases hk:k=0
  .subst hk;have hn0:news=[]:=by have:=hF.1;rw[qj]at this;exact l9.1 this
   subst hn0;refine⟨.slice none 0 0,w,?_,KeepsOthers.refl w,λh=>h⟩;exact GP
  .exact Ge
 .by_cases hr:n+k<=c
  .have hi:(A++([(g,cells)]++rs))[A.length]?=some (g,cells):=G5
   have hrow:=hm.row _ hi;have hcs:c*s=n*s+(c-n)*s:=by rw[<-oh];congr 1;omega
   have hks:k*s<=(c-n)*s:=rV s FP;have hfit:p+n*s+news.length<=cells.size:=by rw[hF.1];omega
   have hrun:=run_append_room_src w t t o.type e i he.under he.info g p n c sv k news (hsrc ()) hr (λj hj=>by rw[he.size,hrow.cell];simp;omega) (λj _=>hrow.free _);exact⟨_,_,hrun,I9 _ _ _ _,λh g' p' m' c' e=>by cases e;exact h _ _ _ _ rfl⟩
  .exact Jx
def dy(wb w0 w:FC)(rs:ae)(ss:O1):Prop:=Own w0 w rs ss/\KeepsOthers wb w
def dy.dropRow{wb:FC}{r:O9}(h:dy wb w0 w (r::rs) ss):dy wb w0 w rs ss:=⟨h.1.dropRow,h.2⟩
def dy.drawn{wb:FC}(h:dy wb w0 w rs ss)(n:Nat):dy wb w0 {w with drawn:=n} rs ss:=⟨h.1.drawn n,h.2.trans ⟨aX _,λ_ _ h _=>h⟩⟩
def SB{wb:FC}(i:Nat)(hm:dy wb w0 w rs ss)(ho:o.op=.store ty x y)(hx:a.eval x=.pointer (some ⟨g,off,none⟩)){v:NY}(hy:a.eval y=v) 
  (hi:rs[i]?=some (g,cs))(ht:ET P ty)(hf:off<cs.size)(hc:v.cells=#[v])(h1:v.oneCell'=true)(hn:cs.setIfInBounds off v=ns)
  (h:∀w',dy wb w0 w' (rs.set i (g,ns)) ss->K undef w'):Eff P o a w K:=
 ((AZ (K:=λv w'=>v=undef/\Own w0 w' (rs.set i (g,ns)) ss) i hm.1 ho hx hy hi ht hf hc h1 hn λw' h=>⟨rfl,h⟩).both (Eff.skip (K:=λ_ w'=>KeepsOthers w w') (Oe hm.1 ho hx hy hi ht hf hc h1) (KeepsOthers.setCell _ _ _))).vE λv w'⟨⟨e,q⟩,k⟩=>e▸h w' ⟨q,hm.2.trans k⟩
def L2{wb:FC}(hm:dy wb w0 w rs ss){e:O4}{bytes:Nat}(ho:o.op=.buildSlice ty 1 #[(0,x)])(he:Gv P ty e q z bytes){v:NY}(hx:a.eval x=v)(hv:v.cells=#[v])
  (h:∀w' g,dy wb w0 w' ((g,#[v])::rs) ss->K (.slice (some ⟨g,0,none⟩) 1 1) w'):Eff P o a w K:=
 Eff.val (Qo ho he hx hv) (h _ _ ⟨hm.1.alloc #[v] e,hm.2.trans (KeepsOthers.alloc _ _)⟩)
def ME{wb:FC}{bytes:Nat}(hm:dy wb w0 w (A++(X++rs)) ss)(ho:o.op=.call {callee:=.builtin .append,args:=#[x,y],argTypes:=#[t,t]})(he:OW P t e s bytes i z)
  {v:NY}(hx:a.eval x=v)(hX:Lies s X v n xs)(hy:a.eval y=sv)(hs:∀W,Own w0 W (A++(X++rs)) ss->From s W sv k news)(h1:∀u∈news,u.oneCell'=true)(hb:(n+k)*bytes<=140737488355328)(h63:n+k<=281474976710656)(hs0:0<s)
  (h:∀X' v' w',Lies s X' v' (n+k) (xs++news)->dy wb w0 w' (A++(X'++rs)) ss->K v' w'):Eff P o a w K:=
 ((GR (K:=λv' w'=>∃X',Lies s X' v' (n+k) (xs++news)/\Own w0 w' (A++(X'++rs)) ss) hm.1 ho he hx hX hy hs h1 hb h63 hs0 λX' v' w' q1 q2=>⟨X',q1,q2⟩).both (FR hm.1 ho he hx hX hy hs h1 hb h63 hs0)).vE λv' w'⟨⟨X',q1,q2⟩,k,_⟩=>h X' v' w' q1 ⟨q2,hm.2.trans k⟩
def Ad9{bytes:Nat}(hm:Own w0 w (A++(X++rs)) ss)(ho:o.op=.call {callee:=.builtin .append,args:=#[x,y],argTypes:=#[t,t]})(he:OW P t e s bytes i z)
  {v:NY}(hx:a.eval x=v)(hX:Lies s X v n xs)(h0:Z0 v)(hy:a.eval y=sv)(hs:∀W,Own w0 W (A++(X++rs)) ss->From s W sv k news)(h1:∀u∈news,u.oneCell'=true)(hb:(n+k)*bytes<=140737488355328)(h63:n+k<=281474976710656)(hs0:0<s)
  (h:∀X' v' w',Lies s X' v' (n+k) (xs++news)->Z0 v'->Own w0 w' (A++(X'++rs)) ss->K v' w'):Eff P o a w K:=
 ((GR (K:=λv' w'=>∃X',Lies s X' v' (n+k) (xs++news)/\Own w0 w' (A++(X'++rs)) ss) hm ho he hx hX hy hs h1 hb h63 hs0 λX' v' w' q1 q2=>⟨X',q1,q2⟩).both (FR hm ho he hx hX hy hs h1 hb h63 hs0)).vE λv' w'⟨⟨X',q1,q2⟩,_,k⟩=>h X' v' w' q1 (k h0) q2
end
end
section
variable{a:OA}{Q:Exit->aJ}{b:Int}{l:bt}{ss:O1}{gw id:Nat}{P:O8}{rs:ae}{w w0:FC}
def Aaf{wb:FC}(hO:dy wb w0 w rs ss)(k:Nat)(t:KT)(hm:P.follows .mixedOrders=true)(hs:Region.noSelect l.toArray=true)(hlen:t.depth=l.toArray.size)
  (hB:(!(Array.replicate l.toArray.size false).getD k false&&eL l.toArray k (Qv l.toArray k) (Array.replicate l.toArray.size false) t)=true)(hQ:∀c a d v w,Q (.panic c) (a.put d v) w->Q (.panic c) a w)
  (h:∀w',dy wb w0 w' rs ss->bX P l.toArray Q t (λW=>dy wb w0 W rs ss) a w'):(Code.region id l.toArray true).wp P Q a w:=
 Kv k t (λW=>dy wb w0 W rs ss) hm hs hlen hB hQ (hO.drawn _) (h _ (hO.drawn _))
def xN(wb w0:FC)(gw:Nat)(bs:ac)(rs:ae)(ss:O1)(x:Ending)(w':FC):Prop:=
 (∃u,x=.returned u)/\∃X v,Lies 1 X v (pack bs).length (vs .u8 (pack bs))/\dy wb w0 w' ((gw,#[v,.int .i64 bs.length])::(X++rs)) ss
def PM{X:ae}{v:NY}(bs:ac){wb:FC}(hm:dy wb w0 w ((gw,#[v,.int .i64 bs.length])::(X++rs)) ss)(hX:Lies 1 X v (pack bs).length (vs .u8 (pack bs)))(hb:Bits bs)(b0:0<=b)(b1:b<=1)(hl:bs.length<=1000000)(h8:bs.length%8≠0):ak 243 #[gw,.int .u8 b] w (xN wb w0 gw (bs++[b]) rs ss):=by
 obtain⟨q,hq⟩:∃q:Nat,q=bs.length%8:=⟨_,rfl⟩;obtain⟨k,hk⟩:∃k:Nat,k=bs.length/8:=⟨_,rfl⟩;have e1:bits .and .i64 (bs.length:Int) 7=(q:Int):=by rw[and7 FP FP];omega
 have e2:Hid ((bs.length:Int)/8=(k:Int)):=aa FP;have hq7:q<=7:=FP
 have hbd:=pK hb k;have hsn:=tE bs b;rw[<-hq,<-hk]at hsn;have hbs:=pK (bs:=bs++[b]) (λx hx=>by rcases dG.1 hx with h|h;exact hb x h;rw[fC.1 h];omega) k;rw[hsn.1]at hbs;have HO:=aa (Bw (byteOf bs k) q FP hbd.1 FP hsn.2 b0 b1 hbs.2);have HP:=aa (K9 bs b);rw[<-hq,<-hk]at HP;have q1:((q:Int)==0)=false:=by simp;omega
 have hR:roomFor bs=pack bs:=by rw[roomFor,aP h8]
 rw[hR]at HP;have hlen:=m8 bs;have hkl:k<(pack bs).length:=FP
 have hgi:gi (pack bs) k=byteOf bs k:=rI bs k FP;obtain⟨g,p,c,cells,rfl,rfl,hc,hs,hx1,hcells⟩:=hX.pos FP;have HX:=aa hX;have hcell:cells[p+k]?=some (.int .u8 (byteOf bs k)):=by rw[<-hgi];exact HX.o.cell (Fg _ _ _ hkl)
 have HC:=aa hcell;obtain⟨s1,X1⟩:=HX.o.put (j:=k) (by rw[Ai];exact hkl) (.int .u8 (byteOf bs k+b*2^(7-q)));rw[aK,<-HP.o]at X1;have HX1:=aa X1;have hle:(pack (bs++[b])).length=(pack bs).length:=by rw[HP.o,cO]
 have HL:=aa hle;have HQ:=aa hq;have HK:=aa hk;clear X1 hX hcell hcells hx1 hR hsn hbs hgi hlen hle hq hk;have q2:bs.length<=1000000:=hl;simp only[s2]at hm;generalize byteOf bs k=x at*;obtain⟨i5,hE⟩:=nP;have HE:=aa hE;clear hE h8 hb HK HQ;go_enter func243,ntmps243
 go_upto_region 2 with(first
  |refine A8 rfl (ld 0 hm.1 rfl rfl rfl (ot rfl) rfl) ?_
  |refine A8 rfl (ld 1 hm.1 rfl rfl rfl (ot rfl) rfl) ?_
  |refine A8 rfl (ld 0 hm.1 rfl rfl rfl (ot rfl) rfl) ?_
  |refine A8 rfl (ld 1 hm.1 rfl rfl rfl (ot rfl) rfl) ?_
  |refine Ad rfl (SB 0 hm rfl rfl (Ac rfl) rfl (ot rfl) G5 rfl rfl rfl ?_);clear hm;intro w hm;try simp only[puts,s2,List.set,List.eraseIdx,s3]at hm
  |refine Ad rfl (SB 1 hm rfl rfl (Ac rfl) rfl (ot rfl) G5 rfl rfl rfl ?_);clear hm;intro w hm;try simp only[puts,s2,List.set,List.eraseIdx,s3]at hm
  |refine Ad rfl (SB 0 hm rfl rfl (Ac rfl) rfl (ot rfl) G5 rfl rfl rfl ?_);clear hm;intro w hm;try simp only[puts,s2,List.set,List.eraseIdx,s3]at hm
  |refine Ad rfl (SB 1 hm rfl rfl (Ac rfl) rfl (ot rfl) G5 rfl rfl rfl ?_);clear hm;intro w hm;try simp only[puts,s2,List.set,List.eraseIdx,s3]at hm)
 exact Hn
def Agv{X:ae}{v:NY}(bs:ac){wb:FC}(hm:dy wb w0 w ((gw,#[v,.int .i64 bs.length])::(X++rs)) ss)(hX:Lies 1 X v (pack bs).length (vs .u8 (pack bs)))(hb:Bits bs)(b0:0<=b)(b1:b<=1)(hl:bs.length<=1000000)(h8:bs.length%8=0):ak 243 #[gw,.int .u8 b] w (xN wb w0 gw (bs++[b]) rs ss):=by
 obtain⟨q,hq⟩:∃q:Nat,q=bs.length%8:=⟨_,rfl⟩;obtain⟨k,hk⟩:∃k:Nat,k=bs.length/8:=⟨_,rfl⟩;have e1:bits .and .i64 (bs.length:Int) 7=(q:Int):=by rw[and7 FP FP];omega
 have e2:Hid ((bs.length:Int)/8=(k:Int)):=aa FP;have hq7:q<=7:=FP
 have hbd:=pK hb k;have hsn:=tE bs b;rw[<-hq,<-hk]at hsn;have hbs:=pK (bs:=bs++[b]) (λx hx=>by rcases dG.1 hx with h|h;exact hb x h;rw[fC.1 h];omega) k;rw[hsn.1]at hbs;have HO:=aa (Bw (byteOf bs k) q FP hbd.1 FP hsn.2 b0 b1 hbs.2);have HP:=aa (K9 bs b);rw[<-hq,<-hk]at HP;have q0:q=0:=FP
 have q1:((q:Int)==0)=true:=by rw[q0];rfl
 have hR:roomFor bs=pack bs++[0]:=by rw[roomFor,aQ h8]
 have hlr:=sG bs;rw[<-hk]at hlr;have hgr:gi (roomFor bs) k=byteOf bs k:=by rw[FG,aQ FP]
 have HRM:=aa hR;have HLR:=aa hlr;have HGR:=aa hgr;have hlen:=m8 bs;have hlp:(pack bs).length=k:=FP
 have hlk:k<=1000000:=FP
 have HLP:=aa hlp;have hle:(pack (bs++[b])).length=k+1:=by rw[HP.o,cO,hlr]
 have HL:=aa hle;rw[hlp]at hX;obtain⟨ad,c,rfl⟩:=hX.shape;have HX:=aa hX;clear hX hR hlr hgr hsn hbs hlen hlp hle hq hk h8 hb q0;generalize byteOf bs k=x at*;obtain⟨i5,hE⟩:=nP;have HE:=aa hE;obtain⟨i6,hE6⟩:=Md;have HL6:=aa hE6;clear hE hE6;go_enter func243,ntmps243
 go_upto_region 2 with(first
  |refine Ad rfl (L2 hm rfl HL6.o D1 rfl ?_);clear hm;intro w gb hm
  |(refine Ad rfl (ME (A:=[_,_]) (X:=X) hm rfl HE.o (Ac rfl) HX.o (Ac rfl) (λW h=>From.one (h.row 0 rfl)) (tJ rfl) FP FP FP ?_);clear hm;intro X2 v2 w hX2 hm;simp only[s2]at hm;obtain⟨ad2,c2,rfl⟩:=hX2.shape;have HX2:=aa hX2;clear hX2)
  |refine A8 rfl (ld 0 hm.1 rfl rfl rfl (ot rfl) rfl) ?_
  |refine A8 rfl (ld 1 hm.1 rfl rfl rfl (ot rfl) rfl) ?_
  |refine A8 rfl (ld 0 hm.1 rfl rfl rfl (ot rfl) rfl) ?_
  |refine A8 rfl (ld 1 hm.1 rfl rfl rfl (ot rfl) rfl) ?_
  |refine Ad rfl (SB 0 hm rfl rfl (Ac rfl) rfl (ot rfl) G5 rfl rfl rfl ?_);clear hm;intro w hm;try simp only[puts,s2,List.set,List.eraseIdx,s3]at hm
  |refine Ad rfl (SB 1 hm rfl rfl (Ac rfl) rfl (ot rfl) G5 rfl rfl rfl ?_);clear hm;intro w hm;try simp only[puts,s2,List.set,List.eraseIdx,s3]at hm
  |refine Ad rfl (SB 0 hm rfl rfl (Ac rfl) rfl (ot rfl) G5 rfl rfl rfl ?_);clear hm;intro w hm;try simp only[puts,s2,List.set,List.eraseIdx,s3]at hm
  |refine Ad rfl (SB 1 hm rfl rfl (Ac rfl) rfl (ot rfl) G5 rfl rfl rfl ?_);clear hm;intro w hm;try simp only[puts,s2,List.set,List.eraseIdx,s3]at hm)
 have hX3:=HX2.o;rw[yZ,qy,<-HRM.o]at hX3;clear HX2;obtain⟨g,p,c3,cells,rfl,hve,hc3,hs3,_,_⟩:=hX3.pos FP;cases hve;have HX3:=aa hX3;replace hm:=hm.dropRow;simp only[s2]at hm;have hcell:cells[p+k]?=some (.int .u8 x):=by rw[<-HGR.o];exact HX3.o.cell (Fg _ _ _ (by rw[HLR.o];omega))
 have HC:=aa hcell;obtain⟨s1,X1⟩:=HX3.o.put (j:=k) (by rw[Ai,HLR.o];omega) (.int .u8 (x+b*2^(7-q)));rw[aK,<-HP.o]at X1;have HX1:=aa X1;clear X1 hX3 hcell;have hkl:k<k+1:=FP
 try simp only[Act.put]
 exact Hn
end
open Go Tryz Go.RowKit Go.Shelf
attribute [local go_sem] oD
def Jr(v:Int):Nat->ac
|0=>[]
|w+1=>v/2^w%2::Jr v w
def tL(v:Int):∀w,(Jr v w).length=w
|0=>rfl
|w+1=>by rw[Jr,bD,tL v w]
def WP(F:Fence)(n:Nat)(h73:F.fn 263)(hro:F.round=none)(hn:1<=n){l:Nat}(gv gd:Nat){v:Int}(v0:0<=v)(v1:v<=4294967295){wd:Nat}(hwd:wd<=32)(J:ac->FC->Prop){W:FC}
  (hd:W.cell? ⟨gd,0,none⟩=some (.int .i64 wd))(hJ:∀pre A,J pre A->A.cell? ⟨gv,0,none⟩=some (.int .u32 v))
  (hY:∀pre x W1,J pre W1->(∃suf,Jr v wd=pre++x::suf)->YieldAt F (n-1) prog l #[.int .u8 x] W1 λe W'=>e=.returned (.bool true)/\J (pre++[x]) W')(h0:J [] W):
  CallsIn F n prog 263 #[.func (.yield l) #[] #[],gd,gv] W λe W'=>(∃v,e=.returned v)/\J (Jr v wd) W':=by
 refine rP func263 rfl h73 ?_ hro;simp only[ntmps263,gX,bD,bW,Nat.reduceAdd,Nat.reduceSub,jV,jW,jX,jZ,iY,eG]
 gi_wp2
 gi_loopw[4] (λu wr=>∃(pre:ac)(k:Nat),k<=wd/\u=.int .i64 ((k:Int)-1)/\Jr v wd=pre++Jr v k/\J pre wr) (λu _=>(intOf u+1).toNat)
 case atStart=>exact⟨[],wd,aX _,rfl,rfl,h0⟩
 case round=>
  obtain⟨pre,k,hk,rfl,hx,hJs⟩:=hrel;have hck:=hJ pre wr hJs;clear h0 hd;rcases qw k with hk0|hk0
  .subst hk0
   gi_wp2
   go_end0
   exact⟨⟨_,rfl⟩,by rw[hx,Jr,fF];exact hJs⟩
  .obtain⟨j,rfl⟩:∃j,k=j+1:=⟨k-1,FP⟩;have q1:decide ((0:Int)<=j)=true:=az;rw[Jr]at hx;have e1:(((j+1:Nat):Int)-1)=(j:Int):=FP
   rw[e1];obtain⟨fn,tmps,assign,body,hy,hR⟩:=hY pre (v/2^j%2) wr hJs ⟨_,hx⟩;have e2:bits .and .u8 (v/2^j%256) 1=v/2^j%2:=by rw[AN FP FP];omega
   gi_wp2
   refine hR.mono ?_;rintro e W3⟨rfl,hJ3⟩;have hc3:=hJ _ W3 hJ3
   gi_wp2
   go_roundw
   case rel=>exact⟨pre++[v/2^j%2],j,FP,rfl,by rw[hx];simp,hJ3⟩
   case measure=>simp[intOf]
def YL(F:Fence)(n:Nat)(h68:F.fn 242)(hro:F.round=none)(v wd:Int)(w:FC):
  CallsIn F n prog 242 #[.int .u32 v,.int .i64 wd] w λe w'=>e=.returned (.func (.func 263) #[] #[.pointer (some ⟨w.heap.size+1,0,none⟩),.pointer (some ⟨w.heap.size,0,none⟩)])/\w'=(w.alloc (.cells #[.int .u32 v] 72)).alloc (.cells #[.int .i64 wd] 3):=by
 refine rP func242 rfl h68 ?_ hro;simp only[ntmps242,gX,bD,bW,Nat.reduceAdd,Nat.reduceSub,jV,jW,jX,jZ,iY,eG]
 gi_wp2
 go_ret;exact⟨G5,rfl⟩
section
variable{bs:ac}{ss:O1}{Bd gw wd x:Nat}{rs:ae}{w w' w0:FC}
attribute [local go_sem] oD
def gH(w0 w:FC)(gw:Nat)(bs:ac)(rs:ae)(ss:O1):Prop:=∃X v,Lies 1 X v (pack bs).length (vs .u8 (pack bs))/\Own w0 w ((gw,#[v,.int .i64 bs.length])::(X++rs)) ss
def Own.s5(h:Own w0 w rs ss){row:Oo}(hg:w.grownBy w' row)(hB:w0.heap.size<=Bd)(hs:∀s∈ss,¬s.2.1<Ey->s.2.1-Ey<Bd)(hr:∀r,row=some r->Bd<=r/\∃o:Obj,w.heap[r]?=some o/\o.isCells=false):Own w0 w' rs ss:=by
 refine⟨h.mem.grown hg (λk e=>jy hB (hr k e).1) (λk e hk=>?_),λs hs2=>?_,h.apart⟩
 .obtain⟨p,hp,rfl⟩:=eX.1 hk;obtain⟨t,ht⟩:=h.mem.rows p hp;obtain⟨_,o,ho,hc⟩:=hr _ e;rw[ht]at ho;cases ho;cases hc
 .have hS:=h.sl s hs2;refine⟨λhq=>(hS.sl hq).kept hg ?_,λhq=>?_⟩
  .cases hk:s.1.ownBlock with
  |none=>exact .inl rfl
  |some g=>
    refine .inr λe'=>?_;obtain⟨cs,t,f,hgb⟩:=hS.cells g hk;obtain⟨_,o,ho,hc⟩:=hr g e'.symm;rw[hgb]at ho;cases ho;cases hc
  .obtain⟨h1,h2,h3⟩:=hS.mp hq;refine⟨h1,h2.block (hg.block _ h2.lt λe'=>?_),h3⟩;exact Nat.lt_irrefl _ (Nat.lt_of_lt_of_le (hs s hs2 hq) (hr _ e'.symm).1)
def zj(v:Int):∀w,∀z∈Jr v w,0<=z/\z<=1
|0,z,h=>by cases h
|w+1,z,h=>by
  rcases dh.1 h with rfl|h
  .omega
  .exact zj v w z h
def Qq(hb:Bits bs)(hwd:wd<=16)(hx:x<2^wd)(hl:bs.length+wd<=1000000)(hm:gH w0 w gw bs rs ss):ak 200 #[gw,.int .u32 x,.int .i64 wd] w λe w'=>e=.returned (.bool true)/\gH w0 w' gw (bs++Jr x wd) rs ss:=by
 refine(oH (n:=12)).1 ?_;have hx2:(x:Int)<2^(wd:Int).toNat:=by rw[gB];exact_mod_cast hx
 have CF:=aa (λw=>(oH (n:=11)).2 (ZV (x:Int) FP FP FP hx2 w));have CD:=aa (λw=>YL Fence.wide 11 trivial rfl (x:Int) wd w);have h241:Fence.wide.fn 241:=trivial;have h242:Fence.wide.fn 242:=trivial;refine callsIn_of_wp_marks func200 rfl trivial ?_ rfl;simp only[ntmps200,gX,bD,bW,Nat.reduceAdd,Nat.reduceSub,jV,jW,jX,jZ,iY,eG]
 gi_wp2_with(first
 |(gi_at_call 241;refine(CF.o _).mono ?_;rintro e w1⟨rfl,hbl⟩;obtain⟨X,v,hX,hm⟩:=hm;replace hm:=(hm.alloc #[gw] 232).call hbl;clear hbl)
 |gi_at_call 242;refine(CD.o _).mono ?_;rintro e w2⟨rfl,rfl⟩;replace hm:=(hm.alloc #[.int .u32 (x:Int)] 72).alloc #[.int .i64 (wd:Int)] 3)
 have hgd:(w1.alloc (.cells #[.int .u32 (x:Int)] 72)).heap.size=w1.heap.size+1:=qN _ _;rw[hgd]at hm;have hsz:((w1.alloc (.cells #[.int .u32 (x:Int)] 72)).alloc (.cells #[.int .i64 (wd:Int)] 3)).heap.size=w1.heap.size+2:=by rw[qN,hgd]
 generalize hW:(w1.alloc (.cells #[.int .u32 (x:Int)] 72)).alloc (.cells #[.int .i64 (wd:Int)] 3)=w2 at*;have hrd:=hm.row 0 rfl;have hrv:=hm.row 1 rfl;generalize w1.heap.size=gv at*;clear hW hgd
 refine Ve (λx=>.int .u8 x) rfl FP (gf:=263) (lb:=#[.pointer (some ⟨gv+1,0,none⟩),.pointer (some ⟨gv,0,none⟩)]) rfl trivial (enters_of func263 FZ rfl) rfl (Jr x wd)
  (λpre W=>∃X v,Lies 1 X v (pack (bs++pre)).length (vs .u8 (pack (bs++pre)))/\Own w0 W ((gv+1,#[.int .i64 (wd:Int)])::(gv,#[.int .u32 (x:Int)])::(w.heap.size,#[.pointer gw])::(gw,#[v,.int .i64 (bs++pre).length])::(X++rs)) ss)
  (λl J W hW hJ hY h0=>WP Fence.wide 11 trivial rfl FP gv (gv+1) FP (by have:2^wd<=2^16:=jD FP hwd;omega) FP J ((rQ (a:=⟨gv+1,0,none⟩) (hW _ (by show gv+1<_;omega))).trans (hrd.cell 0)) (λpre A h=>by obtain⟨X2,v2,_,hm2⟩:=hJ pre A h;exact(hm2.row 1 rfl).cell 0) hY h0)
  ?own ?start (λy=>{tmps:=#[.pointer gw,.int .u32 (x:Int),.int .i64 (wd:Int),.pointer (some ⟨w.heap.size,0,none⟩),undef,undef,.bool false,.int .u8 y,.pointer gw,.bool false,.bool false,.int .u32 (x:Int),.int .i64 (wd:Int),.bool true,.bool false,.bool false,.int .u32 (x:Int),.int .i64 (wd:Int),.func (.func 263) #[] #[.pointer (some ⟨gv+1,0,none⟩),.pointer (some ⟨gv,0,none⟩)],.int .u8 y,undef,undef,undef],defers:=[]}) ?assign ?body ?done
 case start=>exact⟨X,v,by simpa using hX,by simpa using hm⟩
 case assign=>
  intro l y W K hK
  gi_wp2
  exact hK
 case own=>
  rintro pre W W' row⟨X2,v2,hX2,hm2⟩hg hr;exact⟨X2,v2,hX2,hm2.s5 hg hm.below.size (λs hs hq=>((hm.sl s hs).mp hq).2.1.lt) hr⟩
 case body=>
  rintro l pre y W⟨X2,v2,hX2,hm2⟩⟨suf,hsuf⟩
  have CA:Hid (∀(h:dy W w0 W ((gw,#[v2,.int .i64 (bs++pre).length])::(X2++((gv+1,#[.int .i64 (wd:Int)])::(gv,#[.int .u32 (x:Int)])::(w.heap.size,#[.pointer gw])::rs))) ss),ak 243 #[gw,.int .u8 y] W (xN W w0 gw ((bs++pre)++[y]) ((gv+1,#[.int .i64 (wd:Int)])::(gv,#[.int .u32 (x:Int)])::(w.heap.size,#[.pointer gw])::rs) ss)):=λh=>by
   have hbv:=zj x wd;have hlv:=tL x wd;rw[hsuf]at hbv hlv;have hy:=hbv y (kU _ eP);have hbb:Bits (bs++pre):=λz hz=>(dG.1 hz).elim (hb z) λhz=>by have:=hbv z (jU _ hz);omega
   have hle:(bs++pre).length<=1000000:=by
    rw[aV]at hlv⊢;omega
   by_cases h8:(bs++pre).length%8=0
   .exact Agv (bs++pre) h hX2 hbb hy.1 hy.2 hle h8
   .exact PM (bs++pre) h hX2 hbb hy.1 hy.2 hle h8
  refine wpIn_block (C6 ?hq rfl ?_)
  case hq=>rintro⟨_,_,h⟩;exact h
  have hm:=hm2;clear hm2
  go_wp2_with(first
  |go_at_call 243;refine(CA.o ⟨hm.perm (iy [_,_,_] (_::_) rs).symm,KeepsOthers.refl _⟩).mono ?_;rintro e w3⟨⟨u,rfl⟩,X3,v3,hX3,hm3⟩
  |refine U ?_;try(clear hm;intro w hm))
  refine⟨hm3.2.from _,X3,v3,by rw[<-aI];exact hX3,?_⟩;rw[<-aI];exact hm3.1.perm (iy [_,_,_] (_::_) rs)
 case done=>
  rintro D W hD⟨X2,v2,hX2,hm2⟩hK
  gi_wp2
  refine⟨G5,.inl ⟨_,_,rfl,run_takeDeferred hK,?_⟩⟩;refine⟨_,results_tmp rfl _ _ _,rfl,X2,v2,hX2,?_⟩;exact(hm2.s5 (grownBy_putObj' W D _) hm.below.size (λs hs hq=>((hm.sl s hs).mp hq).2.1.lt) (λr e=>by cases e;exact⟨hD,_,hK,rfl⟩)).dropRow.dropRow.dropRow
end
section
variable{ss:O1}{gw:Nat}{rs:ae}{w w0:FC}
def S1{v W:Int}(W0:0<=W)(W1:W<=16)(v0:0<=v)(v2:v<=4294967295)(v1:v/2^W.toNat≠0)(w:FC):ak 241 #[.int .u32 v,.int .i64 W] w (RB w (.bool false)):=by
 have q1:(v/2^W.toNat==0)=false:=lH.2 v1;exact Ax
def Ahk{v W:Int}(W0:0<=W)(W1:W<=16)(v0:0<=v)(v2:v<=4294967295)(v1:v/2^W.toNat≠0)(hm:Own w0 w rs ss):ak 200 #[gw,.int .u32 v,.int .i64 W] w (RO (.bool false) w0 rs ss):=by
 have CF:=aa (S1 W0 W1 v0 v2 v1);go_enter func200,ntmps200
 go_wp2_with(first
 |go_at_call 241;refine cB (CF.o _) hm ?_;clear hm;intro w1 hm
 |refine U ?_;try(clear hm;intro w gp hm))
 exact mU
def a1P(hm:Own w0 w rs ss):ak 157 #[] w λe w'=>∃gw,e=.returned (.pointer (some ⟨gw,0,none⟩))/\gH w0 w' gw [] rs ss:=by
 go_enter func157,ntmps157
 go_wp2_with(refine U ?_;try(clear hm;intro w gp hm))
 go_ret;exact⟨gp,rfl,[],_,Lies.nil 1,hm⟩
def k6(bs:ac)(v:Int)(wd:Nat):ac:=if v/2^wd=0 then bs++Jr v wd else bs
def NX(bs:ac)(v:Int)(wd:Nat)(hb:Bits bs)(v0:0<=v)(v2:v<=4294967295)(hwd:wd<=16)(hl:bs.length+wd<=1000000)(hm:gH w0 w gw bs rs ss):ak 200 #[gw,.int .u32 v,.int .i64 wd] w λe w'=>(∃b,e=.returned (.bool b))/\gH w0 w' gw (k6 bs v wd) rs ss:=by
 by_cases h:v/2^wd=0
 .obtain⟨x,rfl⟩:=dB v0
  have hx:x<2^wd:=by
   have h2:((x/2^wd:Nat):Int)=0:=by exact_mod_cast h
   have h3:x/2^wd=0:=FP
   exact(Nat.div_eq_zero_iff_lt (Nat.two_pow_pos wd)).1 h3
  refine(Qq hb hwd hx hl hm).mono ?_;rintro e w'⟨rfl,h4⟩;exact⟨⟨_,rfl⟩,by rw[k6,aQ h];exact h4⟩
 .obtain⟨X,u,hX,hm⟩:=hm;refine(Ahk FP FP v0 v2 (by rwa[gB]) hm).mono ?_;rintro e w'⟨rfl,h4⟩;exact⟨⟨_,rfl⟩,by rw[k6,aP h];exact⟨X,u,hX,h4⟩⟩
end
section
variable{l m t:ac}{ss:O1}{rs:ae}{w w0:FC}
def tr:ac:=List.replicate 258 0
def yn(w:FC):(zeroValue 287).run prog w=.ok (.agg (J .u32 tr)) w:=FZ
def vf:Aq prog 287 258:=ag rfl
def a0P(hl:l.length=258):Ld prog 287 (J .u32 l) 0 (.agg (J .u32 l)):=.all (by rw[Df,hl];exact vf)
def Pu(hl:l.length=258)(hm:m.length=258):jx prog 287 (J .u32 l) 0 (.agg (J .u32 m)) (J .u32 m):=
 .all (us:=vs .u32 m) (by rw[Ai,hm];exact vf) KO k9
def pH(t:ac)(nx la:Int)(a:Nat):Int:=nx*2^min ((gi t a-la)%256).toNat 32%4294967296
def fR(t o:ac):Nat->Int×Int×ac
|0=>(0,0,tr)
|k+1=>((pH t (fR t o k).1 (fR t o k).2.1 (gi o k).toNat+1)%4294967296,gi t (gi o k).toNat,(fR t o k).2.2.set (gi o k).toNat (pH t (fR t o k).1 (fR t o k).2.1 (gi o k).toNat))
def tW(t o:ac):∀k,(fR t o k).2.2.length=258
|0=>fp
|k+1=>by rw[fR,cO];exact tW t o k
def R7(hl:t.length=258)(hb:Bytes t)(hk:J6 t 258<=32768)(hp:0<(cK t 258).length)(hm:Own w0 w rs ss):ak 202 #[.agg (J .u8 t)] w (RO (.tuple #[.agg (J .u32 (fR t (OV t) (OV t).length).2.2),.int .i64 0]) w0 rs ss):=by
 have HL:=aa hl;have HB:=aa hb;have HP:=aa hp;have HKS:=aa hk;obtain⟨s,hs⟩:∃s,s=(OV t).length:=⟨_,rfl⟩;have hs1:s<=258:=by rw[hs,wH];exact pQ t 258
 have HS:=aa hs;have CV:Hid (∀w,ak 244 #[.agg (J .u8 t)] w (RB w (.bool true))):=λw=>(xL hl hb).mono λe w' h=>⟨by rw[h.1,aW hk],h.2⟩;have ho:Hid (∀x∈OV t,0<=x/\x<258):=aa Fy;rw[<-hs];clear hs hl hb hp hk;go_enter func202,ntmps202
 go_wp2_with(first
 |((with_reducible refine g4 ?_);refine uA hm (hz:=yn) ?_;clear hm;intro w gc hm)
 |((with_reducible refine g1 ?_);refine uL hm (hl:=gM HL.o) ?_)
 |go_at_call 245;refine(PD HL.o HB.o HKS.o HP.o hm).mono ?_;clear hm;rintro e w1⟨go,c1,T,rfl,hm⟩;rw[<-HS.o]
 |go_at_call 244;refine cB (CV.o _) hm ?_;clear hm;intro w1 hm
 |refine U ?_;try(clear hm;intro w gt hm))
 go_loopw[4,5,15] (λu4 u5 u15 wr=>∃(k:Nat)(nx la:Int)(cl:ac),k<=s/\u15=.int .i64 k/\u4=.int .u32 nx/\u5=.int .u8 la/\Hid (fR t (OV t) k=(nx,la,cl))/\Own w0 wr ((go,IR .i64 (OV t) T)::(gc,J .u32 cl)::(gt,J .u8 t)::rs) ss) (λ_ _ u15 _=>s-(intOf u15).toNat)
 case atStart=>exact⟨0,0,0,tr,FP,rfl,rfl,rfl,aa rfl,hm⟩
 case round=>
  clear hm;obtain⟨k,nx,la,cl,hk,rfl,rfl,rfl,HK,hm⟩:=hrel;have hcl:cl.length=258:=by have:=tW t (OV t) k;rw[HK.o]at this;exact this
  rcases bF k s with hlt|hge
  .have q1:decide ((k:Int)<s)=true:=az;have hxo:k<(OV t).length:=by rw[<-HS.o];exact hlt
   obtain⟨ha0,ha1⟩:=ho.out (gi (OV t) k) (cI _ k hxo);obtain⟨a,ha⟩:=dB ha0;have ha2:a<258:=FP
   have htl:=HL.o;have HN:Hid (fR t (OV t) (k+1)=((pH t nx la a+1)%4294967296,gi t a,cl.set a (pH t nx la a))):=aa (by rw[fR,HK.o,ha];rfl);have hsh:0<=(gi t a-la)%256:=Int.emod_nonneg _ FP;clear ha0 ha1
   go_wp2_with(first
   |refine uI k ?_
   |refine uH a ?_
   |refine nF a ?_
   |((with_reducible refine g5 ?_);refine Kd [6] [] (r0:=(gt,J .u8 t)::rs) hm (λW h=>h.dropRow.dropRow) ?_;clear hm;intro w _ hm)
   |with_reducible refine TO hm (λh=>h.dropRow.dropRow) ?_
   |refine U ?_;try(clear hm;intro w _ hm))
   go_roundw
   case rel=>exact⟨k+1,_,_,_,FP,by go_num,rfl,rfl,HN,hm⟩
   case measure=>simp[intOf];omega
  .obtain rfl:k=s:=FP
   have q1:decide ((k:Int)<k)=false:=an
   go_wp2_with(first
   |((with_reducible refine g1 ?_);refine uL hm (hl:=a0P hcl) ?_)
   |((with_reducible refine g2 ?_);refine uS hm (hl:=Pu hcl hcl) ?_;clear hm;intro w _ hm)
   |refine U ?_;try(clear hm;intro w _ hm))
   refine aD (Af rfl rfl (hm.row 1 rfl) (by rw[Df,hcl];exact vf)) rfl ⟨by rw[HK.o];rfl,hm.dropRow.dropRow.dropRow⟩
end
def okS(t l:ac):Nat->Bool
|0=>true
|k+1=>okS t l k&&(decide (0<=gi l k)&&decide (gi l k<258)&& !(gi t (gi l k).toNat==0))
def gS(t l:ac):Bool:=decide (J6 t 258<=32768)&&okS t l l.length
def LN{t l:ac}{k:Nat}(h:okS t l k=false):∀i,okS t l (k+i)=false
|0=>h
|i+1=>by rw[<-gG,okS,LN h i];rfl
def PE{t l:ac}{k:Nat}(hk:k<l.length)(h:¬(0<=gi l k/\gi l k<258/\gi t (gi l k).toNat≠0)):okS t l l.length=false:=by
 have h1:okS t l (k+1)=false:=by
  rw[okS];by_cases h0:0<=gi l k
  .by_cases h2:gi l k<258
   .have h3:gi t (gi l k).toNat=0:=Fj λh3=>h ⟨h0,h2,h3⟩;rw[h3];simp
   .simp[h2]
  .simp[h0]
 have:=LN h1 (l.length-(k+1));rwa[show k+1+(l.length-(k+1))=l.length by omega]at this
def ec(b:Bool):Int:=if b=true then 0 else 2
def YW{t l:ac}(hl:t.length=258)(hb:Bytes t)(hn:l.length<=1000000){v:NY}{w0 w:FC}{rs:ae}{ss:O1}(hin:∀W,Own w0 W rs ss->In .i64 W v l)(hm:Own w0 w rs ss):ak 201 #[.agg (J .u8 t),v] w λe w'=>(∃n,e=.returned (.tuple #[.int .i64 n,.int .i64 (ec (gS t l))]))/\Own w0 w' rs ss:=by
 obtain⟨ad,c,rfl,_⟩:=hin w hm;have HL:=aa hl;have HB:=aa hb;obtain⟨b0,hb0⟩:∃b,b=decide (J6 t 258<=32768):=⟨_,rfl⟩;have CV:Hid (∀w,ak 244 #[.agg (J .u8 t)] w (RB w (.bool b0))):=λw=>(xL hl hb).mono λe w' h=>⟨by rw[h.1,hb0],h.2⟩;obtain⟨n,hnn⟩:∃n,n=l.length:=⟨_,rfl⟩
 have HI:Hid (∀W,Own w0 W rs ss->∀k,k<n->∃A,ad=some A/\W.cell? (A.add k)=some (.int .i64 (gi l k))):=λW h k hk=>by
  obtain⟨ad2,c2,e,hc⟩:=hin W h;cases e;exact hc k (hnn▸hk)
 obtain⟨i3,hE⟩:=nR;have HE:=aa hE;have HT:Hid (gS t l=(b0&&okS t l l.length)):=aa (by rw[gS,hb0]);rw[<-hnn]at hn⊢;have HN:=aa hnn;clear hl hb hb0 hin hE hnn;cases b0 with
|false=>
  have HR:Hid (2=ec (gS t l)):=aa (by rw[HT.o];rfl);go_enter func201,ntmps201
  go_wp2_with(first
  |((with_reducible refine g1 ?_);refine uL hm (hl:=gM HL.o) ?_)
  |go_at_call 244;refine cB (CV.o _) hm ?_;clear hm;intro w1 hm
  |refine U ?_;try(clear hm;intro w gt hm))
  exact F1
|true =>
  have hbad:Hid (okS t l l.length=false->2=ec (gS t l)):=λh=>by rw[HT.o,h];rfl
  go_enter func201,ntmps201
  go_wp2_with(first
  |((with_reducible refine g1 ?_);refine uL hm (hl:=gM HL.o) ?_)
  |go_at_call 244;refine cB (CV.o _) hm ?_;clear hm;intro w1 hm
  |refine U ?_;try(clear hm;intro w gt hm))
  go_loopw[4,13] (λu4 u13 wr=>∃(k:Nat)(x:Int),k<=n/\u13=.int .i64 k/\u4=.int .i64 x/\0<=x/\x<=k*255/\Hid (okS t l k=true)/\Own w0 wr ((gt,J .u8 t)::rs) ss) (λ_ u13 _=>n-(intOf u13).toNat)
  case atStart=>exact⟨0,0,FP,rfl,rfl,FP,FP,aa rfl,hm⟩
  case round=>
   clear hm;obtain⟨k,x,hk,rfl,rfl,hx0,hx1,HK,hm⟩:=hrel;rcases bF k n with hlt|hge
   .have q1:decide ((k:Int)<n)=true:=az;obtain⟨A,rfl,_⟩:=HI.o _ hm.dropRow k hlt;have HA:Hid (∀W,Own w0 W ((gt,J .u8 t)::rs) ss->W.cell? (A.add k)=some (.int .i64 (gi l k))):=λW h=>by obtain⟨A2,e,h2⟩:=HI.o W h.dropRow k hlt;cases e;exact h2
    have hst:Hid (¬(0<=gi l k/\gi l k<258/\gi t (gi l k).toNat≠0)->2=ec (gS t l)):=λh=>hbad.out (PE JR h);have hgo:Hid (0<=gi l k/\gi l k<258/\gi t (gi l k).toNat≠0->okS t l (k+1)=true):=λ⟨h0,h1,h2⟩=>by rw[okS,HK.o];simp[h0,h1,h2]
    generalize gi l k=s at*;have htl:=HL.o;rcases(show s<0\/258<=s\/(0<=s/\s<258) by omega)with h0|h0|⟨h0,h1⟩
    .have q2:decide (s<0)=true:=aW h0;exact GG
    .have q2:decide (s<0)=false:=an;have q3:decide (258<=s)=true:=aW h0;exact GG
    .have q2:decide (s<0)=false:=an;have q3:decide (258<=s)=false:=an;obtain⟨a,rfl⟩:=dB h0;have ha2:a<258:=FP
     obtain⟨y0,y1⟩:=HB.o (gi t a) (cI t a FP);have hyy:(a:Int).toNat=a:=rfl;by_cases hy:gi t a=0
     .have q4:(gi t a==0)=true:=by rw[hy];rfl
      have hr:=hst.out (λh=>h.2.2 hy)
      go_wp2_with(first
      |refine A8 rfl (Am (k:=k) rfl HE.o rfl rfl rfl hlt) ?_
      |refine A8 rfl (AU rfl rfl (ot rfl) (HA.o _ hm)) ?_
      |refine uH a ?_
      |refine U ?_;try(clear hm;intro w gt hm))
      exact AT
     .have q4:(gi t a==0)=false:=lH.2 hy;have hr:=aa (hgo.out ⟨h0,h1,hy⟩)
      go_wp2_with(first
      |refine A8 rfl (Am (k:=k) rfl HE.o rfl rfl rfl hlt) ?_
      |refine A8 rfl (AU rfl rfl (ot rfl) (HA.o _ hm)) ?_
      |refine uH a ?_
      |refine U ?_;try(clear hm;intro w gt hm))
      go_roundw
      case rel=>exact⟨k+1,_,FP,by go_num,rfl,FP,FP,hr,hm⟩
      case measure=>simp[intOf];omega
   .obtain rfl:k=n:=FP
    have q1:decide ((k:Int)<k)=false:=an;have HR:Hid (0=ec (gS t l)):=aa (by rw[HT.o,<-HN.o,HK.o];rfl);go_wp2;exact F1
section
variable{bs l t:ac}{ss:O1}{a gw wd:Nat}{rs:ae}{w w0:FC}
def eB(t c l bs:ac):Nat->ac
|0=>bs
|k+1=>k6 (eB t c l bs k) (gi c (gi l k).toNat) (gi t (gi l k).toNat).toNat
def Afw(bs:ac)(v:Int)(wd:Nat):(k6 bs v wd).length<=bs.length+wd:=by
 unfold k6;split
 .rw[aV,tL];omega
 .omega
def PA(h:Bits bs){v:Int}:Bits (k6 bs v wd):=by
 unfold k6;split
 .intro z hz;rcases dG.1 hz with hz|hz
  .exact h z hz
  .have:=zj v wd z hz;omega
 .exact h
def yp(t c l:ac){bs:ac}(h:Bits bs):∀k,Bits (eB t c l bs k)
|0=>h
|k+1=>PA (yp t c l h k)
def td{t l:ac}:∀{n k:Nat},okS t l n=true->k<n->0<=gi l k/\gi l k<258/\gi t (gi l k).toNat≠0
|n+1,k,h,hk=>by
  rw[okS,cR,cR,cR]at h;obtain⟨h1,⟨h2,h3⟩,h4⟩:=h;rcases bF k n with hlt|hge
  .exact td h1 hlt
  .obtain rfl:k=n:=FP
   exact⟨eF h2,eF h3,by simpa using h4⟩
def Pc(t o:ac):∀k,∀x∈(fR t o k).2.2,0<=x/\x<=4294967295
|0,x,h=>by obtain rfl:=ni h;decide
|k+1,x,h=>by
  rw[fR]at h;rcases kV h with h|rfl
  .exact Pc t o k x h
  .unfold pH;omega
def JN{t:ac}{a:Nat}:∀{k:Nat},k<=t.length->a<k->share (gi t a)<=J6 t k
|k+1,hk,ha=>by
  rw[Pq t k hk];have h1:=(Nz t k FP).1;have h2:=(KE (gi t k)).1;rcases bF a k with h|h
  .have:=JN (t:=t) (a:=a) (k:=k) FP h;omega
  .obtain rfl:a=k:=FP
   omega
def Tk(hl:t.length=258)(hk:J6 t 258<=32768)(ha:a<258):gi t a<=15:=by
 have h:=JN (t:=t) (k:=258) FP ha;rw[share]at h;by_cases h0:gi t a=0
 .omega
 .rw[aP h0]at h;by_cases h1:15<gi t a
  .rw[aQ h1]at h;omega
  .omega
def yk{t:ac}{a:Nat}(h0:0<gi t a):∀{k:Nat},a<k->0<(cK t k).length
|k+1,ha=>by
  rw[cK];rcases bF a k with h|h
  .have:=yk h0 h;split
   .rw[aV];omega
   .exact this
  .obtain rfl:a=k:=FP
   rw[aQ h0,aV];simp
def kg(t l bs:ac):ac:=if gS t l=true then eB t (fR t (OV t) (OV t).length).2.2 l bs l.length else bs
def ui(t c l bs:ac)(h:∀a,gi t a<=15):∀k,(eB t c l bs k).length<=bs.length+15*k
|0=>aX _
|k+1=>by
  have h1:=ui t c l bs h k;have h2:=Afw (eB t c l bs k) (gi c (gi l k).toNat) (gi t (gi l k).toNat).toNat
  have:=h (gi l k).toNat
  rw[eB];omega
def a0E(hl:t.length=258)(hb:Bytes t)(hn:l.length<=20000)(hp:0<l.length)(hbs:Bits bs)(hlen:bs.length<=500000){v:NY}(hin:∀W R,Own w0 W (R++rs) ss->In .i64 W v l)(hm:gH w0 w gw bs rs ss):ak 159 #[gw,.agg (J .u8 t),v] w λe w'=>(∃n,e=.returned (.int .i64 n))/\gH w0 w' gw (kg t l bs) rs ss:=by
 obtain⟨X,u,hX,hm⟩:=hm;have HX:=aa hX;clear hX;obtain⟨n,hnn⟩:∃n,n=l.length:=⟨_,rfl⟩;have CS:Hid (∀W R,Own w0 W (R++rs) ss->ak 201 #[.agg (J .u8 t),v] W λe w'=>(∃n,e=.returned (.tuple #[.int .i64 n,.int .i64 (ec (gS t l))]))/\Own w0 w' (R++rs) ss):=λW R h=>YW hl hb FP (λW h=>hin W R h) h;have HL:=aa hl;cases hok:gS t l with
|false=>
  rw[hok]at CS;have HR:Hid (kg t l bs=bs):=aa (by rw[kg,hok];rfl);rw[HR.o];have q2:ec false=2:=rfl;rw[q2]at CS;clear hl hb hin;go_enter func159,ntmps159
  go_wp2_with(first
  |((with_reducible refine g1 ?_);refine uL hm (hl:=gM HL.o) ?_)
  |go_at_call 201;refine(CS.o _ (_::_::X) hm).mono ?_;clear hm;rintro e w⟨⟨z,rfl⟩,hm⟩;simp only[eG]at hm
  |refine U ?_;try(clear hm;intro w gt hm))
  go_ret;exact⟨⟨_,rfl⟩,X,u,HX.o,hm.dropRow⟩
|true=>
  rw[hok]at CS;have q2:ec true=0:=rfl;rw[q2]at CS
  obtain⟨hk,hs⟩:J6 t 258<=32768/\okS t l l.length=true:=by
   rw[gS,cR]at hok;exact⟨eF hok.1,hok.2⟩
  have h0:=td hs hp;have hpu:0<(cK t 258).length:=yk (a:=(gi l 0).toNat) (by have:=(hb _ (cI t (gi l 0).toNat FP)).1;omega) FP;obtain⟨C,hC⟩:∃C,C=(fR t (OV t) (OV t).length).2.2:=⟨_,rfl⟩;have HR:Hid (kg t l bs=eB t C l bs n):=aa (by rw[kg,hok,aQ rfl,hC,hnn]);rw[HR.o];have hCl:C.length=258:=by rw[hC];exact tW _ _ _
  have hCb:∀x∈C,0<=x/\x<=4294967295:=by rw[hC];exact Pc _ _ _
  have CC:Hid (∀W R,Own w0 W R ss->ak 202 #[.agg (J .u8 t)] W (RO (.tuple #[.agg (J .u32 C),.int .i64 0]) w0 R ss)):=λW R h=>by rw[hC];exact R7 hl hb hk hpu h
  have h15:∀a,gi t a<=15:=λa=>by
   exact KK
  have CP:Hid (∀W(k:Nat)gc gt X u(y z:Int),k<n->y=gi C (gi l k).toNat->z=gi t (gi l k).toNat->Lies 1 X u (pack (eB t C l bs k)).length (vs .u8 (pack (eB t C l bs k)))->Own w0 W ((gc,J .u32 C)::(gt,J .u8 t)::(gw,#[u,.int .i64 (eB t C l bs k).length])::(X++rs)) ss->ak 200 #[gw,.int .u32 y,.int .i64 z] W λe w'=>(∃b,e=.returned (.bool b))/\∃X' u',Lies 1 X' u' (pack (eB t C l bs (k+1))).length (vs .u8 (pack (eB t C l bs (k+1))))/\Own w0 w' ((gc,J .u32 C)::(gt,J .u8 t)::(gw,#[u',.int .i64 (eB t C l bs (k+1)).length])::(X'++rs)) ss):=λW k gc gt X u y z hk e1 e2 hX h=>by
   have hs:=td hs (show k<l.length by omega);have ha:(gi l k).toNat<258:=FP
   have h1:=hCb _ (cI C (gi l k).toNat FP);have h2:=(hb _ (cI t (gi l k).toNat FP)).1;have h3:=h15 (gi l k).toNat
   have h4:=ui t C l bs h15 k;have e3:z=((gi t (gi l k).toNat).toNat:Int):=FP
   rw[e1,e3];refine(NX (eB t C l bs k) _ (gi t (gi l k).toNat).toNat (yp _ _ _ hbs _) h1.1 h1.2 FP FP ⟨X,u,hX,h.perm (iy [_,_] (_::X) rs).symm⟩).mono ?_;rintro e w'⟨hb,X',u',hX',h'⟩;exact⟨hb,X',u',hX',h'.perm (iy [_,_] (_::X') rs)⟩
  have HI:Hid (∀W R,Own w0 W (R++rs) ss->In .i64 W v l):=aa hin;have hbb:Hid (∀a,a<258->0<=gi t a/\gi t a<=15):=λa ha=>⟨(hb _ (cI t a FP)).1,h15 a⟩;have hbd:Hid (∀k,k<n->0<=gi l k/\gi l k<258):=λk hk=>by have:=td hs (show k<l.length by omega);omega
  obtain⟨ad,c,rfl,_⟩:=hin w (_::X) hm;have hP0:eB t C l bs 0=bs:=rfl;rw[<-hP0]at HX hm;obtain⟨i3,hE⟩:=nR;have HE:=aa hE
  have HA:Hid (∀W R k,k<n->Own w0 W (R++rs) ss->∃A,ad=some A/\W.cell? (A.add k)=some (.int .i64 (gi l k))):=λW R k hk h=>by
   obtain⟨ad2,c2,e,hc⟩:=HI.o W R h;cases e;exact hc k (hnn▸hk)
  rw[<-hnn]at hn hp⊢;rw[<-hnn]at CS;clear hl hb hin hC hk hs h0 hpu hE hnn hCb h15 hP0;go_enter func159,ntmps159
  go_wp2_with(first
  |((with_reducible refine g1 ?_);refine uL hm (hl:=gM HL.o) ?_)
  |((with_reducible refine g4 ?_);refine uA hm (hz:=yn) ?_;clear hm;intro w gc hm)
  |((with_reducible refine g2 ?_);refine uS hm (hl:=Pu (l:=tr) fp hCl) ?_;clear hm;intro w _ hm)
  |go_at_call 201;refine(CS.o _ (_::_::X) hm).mono ?_;clear hm;rintro e w⟨⟨z,rfl⟩,hm⟩;simp only[eG]at hm
  |go_at_call 202;refine MP (CC.o _ _ hm) ?_;clear hm;intro w hm
  |refine U ?_;try(clear hm;intro w gt hm))
  go_loopw[32] (λu32 wr=>∃(k:Nat)(X:ae)(u:NY),k<=n/\u32=.int .i64 k/\Lies 1 X u (pack (eB t C l bs k)).length (vs .u8 (pack (eB t C l bs k)))/\Own w0 wr ((gc,J .u32 C)::(gt,J .u8 t)::(gw,#[u,.int .i64 (eB t C l bs k).length])::(X++rs)) ss) (λu32 _=>n-(intOf u32).toNat)
  case atStart=>exact⟨0,X,u,FP,rfl,HX.o,hm⟩
  case round=>
   clear hm HX;obtain⟨k,X,u,hk,rfl,hX,hm⟩:=hrel;have HX:=aa hX;clear hX;rcases bF k n with hlt|hge
   .have q1:decide ((k:Int)<n)=true:=az;obtain⟨A,rfl,_⟩:=HA.o _ (_::_::_::X) k hlt hm;have HB:Hid (∀W R,Own w0 W (R++rs) ss->W.cell? (A.add k)=some (.int .i64 (gi l k))):=λW R h=>by obtain⟨A2,e,h2⟩:=HA.o W R k hlt h;cases e;exact h2
    have CQ:=aa λW gc gt X u y z=>CP.o W k gc gt X u y z hlt;obtain⟨y0,y1⟩:=hbd.out k hlt;have htl:=HL.o;generalize hs:gi l k=s at*;obtain⟨a,rfl⟩:=dB y0;have ha:a<258:=FP
    have haa:(a:Int).toNat=a:=rfl;obtain⟨z0,z1⟩:=hbb.out a ha;rw[haa]at CQ;generalize hL1:eB t C l bs (k+1)=L1 at*;generalize eB t C l bs k=L0 at*
    go_wp2_with(first
    |refine A8 rfl (Am (k:=k) rfl HE.o rfl rfl rfl hlt) ?_
    |refine A8 rfl (AU rfl rfl (ot rfl) (HB.o _ (_::_::_::X) hm)) ?_
    |refine nF a ?_
    |((with_reducible refine g5 ?_);refine uT [] [] hm ?_;clear hm;intro w _ hm)
    |(go_at_call 200;refine(CQ.o _ _ _ _ _ _ _ JA JA HX.o hm).mono ?_;clear hm HX;rintro e w⟨⟨b,rfl⟩,X,u,hX,hm⟩;have HX:=aa hX;clear hX)
    |refine U ?_;try(clear hm;intro w gt hm))
    exact Ke
   .obtain rfl:k=n:=FP
    have q1:decide ((k:Int)<k)=false:=an;go_wp2;go_ret;exact⟨⟨_,rfl⟩,X,u,HX.o,hm.dropRow.dropRow⟩
end
attribute [local go_sem] oD
def m6(t:ac):Nat->ac
|0=>[]
|i+1=>m6 t i++[gi t 0/2^(3-i)%2]
def dV(t:ac):Nat->ac
|0=>m6 t 4
|k+1=>dV t k++fk (gi t (k-1)) (gi t k)
def Kp{P:O8}{fn:Func}{p t:Tmp}{ty:O4}(h:fn.results=#[.cell p ty,.tmp t]){tmps:ai}{w:FC}{B:Nat}{v:NY}(hp:tmps.getD p undef=.pointer B)(ht:ET P ty)(hb:w.cell? ⟨B,0,none⟩=some v):(results fn tmps).run P w=.ok (.tuple #[v,tmps.getD t undef]) w:=by
 have hp':tmps[p]?.getD undef=.pointer B:=by simpa using hp
 have hl:(loadVar ty ⟨B,0,none⟩).run P w=.ok v w:=by
  simp only[loadVar,aL,aS,ht.1,lU,jq,run_load,hb]
 simp[results,h,hp',asAddr,hl]
def XR(Q:Exit->aJ):Exit->aJ
|.panic _,_,_=>False
|e,a,w=>Q e a w
def Fu{Q:Exit->aJ}{e:Exit}{a:OA}{w:FC}(h:XR Q e a w):Q e a w:=by
 cases e<;>first|exact h|exact h.elim
def mark(D:Nat):Deferred:={target:=.collected D,args:=#[]}
def Pa{n:Nat}{fn:Func}{tmps:ai}{R:Ending->FC->Prop}{w0:FC}{rs:ae}{ss:O1}:∀{Ds:b9}{w:FC},(∀D∈Ds,w0.heap.size<=D/\w.heap[D]?=some (.deferred (some [])))->Ds.Nodup->(∀s∈ss,¬s.2.1<Ey->∀D∈Ds,s.2.1-Ey<D)->Own w0 w rs ss->(∀W,Own w0 W rs ss->LeavesInM Fence.wide n prog fn tmps R [] .returning W)->LeavesInM Fence.wide n prog fn tmps R (Ds.map mark) .returning w
|[],w,_,_,_,hm,h=>h w hm
|D::Ds,w,hD,hn,hs,hm,h=>by
  rw[dR]at hn;obtain⟨h1,h2⟩:=hD D eP;refine⟨G5,.inl ⟨D,_,rfl,run_takeDeferred h2,?_⟩⟩;refine Pa (Ds:=Ds) (λD' hD'=>?_) hn.2 (λs hs' hq D' hD'=>hs s hs' hq D' (fB _ hD')) (hm.s5 (Bd:=D) (grownBy_putObj' w D _) h1 (λs hs' hq=>hs s hs' hq D eP) (λr e=>by cases e;exact⟨aX _,_,h2,rfl⟩)) h;obtain⟨h3,h4⟩:=hD D' (fB _ hD');exact⟨h3,(World.putObj_heap_other (show D'≠D from λe=>hn.1 (by rw[<-e];exact hD'))).trans h4⟩
def Fc(w:FC):(zeroValue 124).run prog w=.ok (.slice none 0 0) w:=FZ
def GA:ET prog 124:=⟨λw=>FZ,FZ⟩
def a01{t:ac}(hl:t.length=258)(hb:Bytes t){w0 w:FC}{rs:ae}{ss:O1}(hm:Own w0 w rs ss):ak 199 #[.agg (J .u8 t)] w λe w'=>∃X v,e=.returned (.tuple #[v,.int .i64 (if JL t=true then 0 else 2)])/\Lies 1 X v (if JL t=true then dV t 258 else[]).length (vs .i64 (if JL t=true then dV t 258 else[]))/\Own w0 w' (X++rs) ss:=by
 refine(oH (n:=12)).1 ?_;have HL:=aa hl;have HB:=aa hb;have CK:=aa (λw=>table_any t w hl hb);have CD:=aa (λ(a b:Int)w=>oH.1 (Qr Fence.wide 11 trivial rfl a b w));cases hk:JL t with
|false=>
  rw[hk]at CK;simp only[lU,jq];clear hl hb;refine callsIn_of_wp_marks func199 rfl trivial ?_ rfl;refine wpIn_wide.2 (wp_mono ?_ λe a w h=>Fu h);simp only[ntmps199,gX,bD,bW,Nat.reduceAdd,Nat.reduceSub,jV,jW,jX,jZ,iY,eG]
  go_wp2_with(first
  |((with_reducible refine g1 ?_);refine uL hm (hl:=gM HL.o) ?_)
  |((with_reducible refine g4 ?_);refine u1 hm (hz:=Fc) ?_;clear hm;intro w go hm)
  |go_at_call 168;refine(CK.o _).mono ?_;rintro e w1⟨rfl,hbl⟩;replace hm:=hm.call hbl;clear hbl
  |refine U ?_;try(clear hm;intro w gt hm))
  exact⟨_,Kp rfl rfl GA ((hm.row 0 rfl).cell 0),[],_,rfl,Lies.nil 1,hm.dropRow.dropRow⟩
|true =>
  rw[hk]at CK;simp only[fP];have hB0:=hb _ (cI t 0 FP);obtain⟨x0,hx0⟩:=dB hB0.1;have hx1:x0<=255:=FP
  clear hb
  have h4:Hid (∀i,i<4->bits .and .i64 (gi t 0/2^(3-i)) 1=gi t 0/2^(3-i)%2):=λi hi=>by
   have e:(x0:Int)/2^(3-i)=((x0/2^(3-i):Nat):Int):=by push_cast;rfl
   rw[hx0,e,xP _ (jK (xO _ _) FP)];push_cast;rfl
  clear hx0 hx1;have hl4:Hid (∀i,(m6 t i).length=i):=λi=>by induction i with|zero=>rfl|succ i ih=>rw[m6,aV,ih];rfl
  have HLL:Hid (∀k,k<=258->(dV t k).length<=4+520*k):=λk hk=>by
   induction k with
  |zero=>rw[dV,hl4.out];omega
  |succ k ih=>
    have h1:=HB.o _ (cI t (k-1) FP);have h2:=HB.o _ (cI t k FP);have:=ih FP;rw[dV,aV,fk,pf];omega
  obtain⟨iE,hE⟩:=nR;have HE:=aa hE;obtain⟨iM,hM⟩:=wM;have HM:=aa hM;clear hE hM;refine callsIn_of_wp_marks func199 rfl trivial ?_ rfl;refine wpIn_wide.2 (wp_mono ?_ λe a w h=>Fu h);simp only[ntmps199,gX,bD,bW,Nat.reduceAdd,Nat.reduceSub,jV,jW,jX,jZ,iY,eG]
  go_wp2_with(first
  |((with_reducible refine g1 ?_);refine uL hm (hl:=gM HL.o) ?_)
  |((with_reducible refine g4 ?_);refine u1 hm (hz:=Fc) ?_;clear hm;intro w go hm)
  |go_at_call 168;refine(CK.o _).mono ?_;rintro e w1⟨rfl,hbl⟩;replace hm:=hm.call hbl;clear hbl
  |refine uH 0 ?_
  |refine U ?_;try(clear hm;intro w gt hm))
  go_loopw[15] (λu15 wr=>∃(i:Nat)(X:ae)(v:NY),i<=4/\u15=.int .i64 i/\Lies 1 X v (m6 t i).length (vs .i64 (m6 t i))/\Own w0 wr ((go,#[v])::(gt,J .u8 t)::(X++rs)) ss) (λu15 _=>4-(intOf u15).toNat)
  case atStart=>exact⟨0,[],_,FP,rfl,Lies.nil 1,hm⟩
  case round=>
   clear hm;obtain⟨i,X,v,hi,rfl,hX,hm⟩:=hrel;obtain⟨ad,cp,rfl⟩:=hX.shape;have HX:=aa hX;clear hX;rcases bF i 4 with hlt|hge
   .have q1:decide ((i:Int)<4)=true:=az;have h5:=h4.out i hlt;have h6:=hl4.out i
    go_wp2_with(first
    |((with_reducible refine g5 ?_);refine uT [6] [] hm ?_;clear hm;intro w _ hm)
    |refine Ad rfl (JQ hm rfl HE.o (Ac rfl) rfl ?_);clear hm;intro w gb hm
    |(refine Ad rfl (GR (A:=[_,_,_]) (X:=X) hm rfl HM.o (Ac rfl) HX.o (Ac rfl) (λW h=>From.one (h.row 0 rfl)) (tJ rfl) FP FP FP ?_);clear hm HX;intro X v w hX hm;simp only[s2]at hm;replace hm:=hm.dropRow;obtain⟨ad,cp,rfl⟩:=hX.shape;have HX:=aa hX;clear hX)
    |refine U ?_;try(clear hm;intro w gb hm))
    go_roundw
    case rel=>
     refine⟨i+1,X,_,FP,by go_num,?_,hm⟩;rw[m6,aV,P7];exact HX.o
    case measure=>simp[intOf];omega
   .obtain rfl:i=4:=FP
    have q1:decide (((4:Nat):Int)<4)=false:=rfl
    go_wp2_with(first
    |((with_reducible refine g1 ?_);refine uL hm (hl:=gM HL.o) ?_)
    |refine U ?_;try(clear hm;intro w gb hm))
    refine wp_loop (λa wr=>∃(k:Nat)(cu:Int)(Ds:b9)(X:ae)(v a7 a29 a30 a31 a32 a33 a34 a40 a41 a42:NY),a={tmps:=#[.agg (J .u8 t),.pointer gt,.pointer go,.int .i64 0,.int .i64 cu,u5,undef,a7,undef,.agg (J .u8 t),.bool true,.bool false,.pointer gt,.int .u8 (gi t 0),.int .i64 (gi t 0),.int .i64 ((4:Nat):Int),.bool false,u17,u18,u19,u20,u21,u22,u23,u24,u25,u26,.agg (J .u8 t),.int .i64 k,a29,a30,a31,a32,a33,a34,undef,undef,undef,undef,undef,a40,a41,a42,undef],defers:=Ds.map mark}/\k<=258/\cu=gi t (k-1)/\Lies 1 X v (dV t k).length (vs .i64 (dV t k))/\Own w0 wr ((go,#[v])::(gt,J .u8 t)::(X++rs)) ss/\(∀D∈Ds,w0.heap.size<=D/\wr.heap[D]?=some (.deferred (some [])))/\Ds.Nodup/\(∀s∈ss,¬s.2.1<Ey->∀D∈Ds,s.2.1-Ey<D)) (λa _=>258-(intOf (a.tmps.getD 28 undef)).toNat) ⟨0,_,[],X,_,_,_,_,_,_,_,_,_,_,_,rfl,FP,rfl,HX.o,hm,λD h=>G6,yc,λs _ _ D h=>G6⟩ ?_
    clear hm HX;rintro _ wr⟨k,cu,Ds,X,v,a7,a29,a30,a31,a32,a33,a34,a40,a41,a42,rfl,hk,hcu,hX,hm,hD,hn,hs⟩;obtain⟨ad,cp,rfl⟩:=hX.shape;have HX:=aa hX;have HD:=aa hD;have HN:=aa hn;have HS:=aa hs;have HCU:=aa hcu;clear hX hD hn hs hcu;rcases bF k 258 with hlt|hge
    .have q2:decide ((k:Int)<258)=true:=az;have hb1:=(HB.o _ (cI t (k-1) FP));have hb2:=(HB.o _ (cI t k FP));obtain⟨p,hp⟩:=dB hb1.1;obtain⟨q,hq⟩:=dB hb2.1;have HP:=aa hp;have HQ:=aa hq;have hcp:cu=p:=HCU.o.trans hp;subst hcp;have hp2:p<=255:=FP
     have hq2:q<=255:=FP
     have CD2:=aa (λw=>CD.o (p:Int) (q:Int) w);have hg:(J .u8 t)[k]?=some (.int .u8 q):=by rw[<-hq];exact XC .u8 t k FP
     clear HCU hb1 hb2 hp hq
     go_wp2_with(first
     |refine A8 rfl (DZ rfl rfl rfl underlying139 FV hlt hg) ?_
     |go_at_call 240;refine(CD2.o _).mono ?_;rintro e w2⟨rfl,rfl⟩
     |refine U ?_;try(clear hm;intro w gb hm))
     have hlk:∀D∈Ds,D<wr.heap.size:=λD hD=>(ji.1 (HD.o D hD).2).1;have hgd:(wr.alloc (.cells #[.int .i64 (p:Int)] 3)).heap.size=wr.heap.size+1:=qN _ _;have hsz:((wr.alloc (.cells #[.int .i64 (p:Int)] 3)).alloc (.cells #[.int .i64 (q:Int)] 3)).heap.size=wr.heap.size+2:=by rw[qN,hgd]
     have hD2:∀D∈Ds,((wr.alloc (.cells #[.int .i64 (p:Int)] 3)).alloc (.cells #[.int .i64 (q:Int)] 3)).heap[D]?=some (.deferred (some [])):=λD hD=>(Below.heap_alloc _ _ _ (by have:=hlk D hD;omega)).trans ((Below.heap_alloc _ _ _ (hlk D hD)).trans (HD.o D hD).2);replace hm:=(hm.alloc #[.int .i64 (p:Int)] 3).alloc #[.int .i64 (q:Int)] 3;rw[hgd]at hm;have HDw:Hid (∀D∈Ds,w0.heap.size<=D):=λD hD=>(HD.o D hD).1;have hml:=hm.below.size
     have hms:∀s∈ss,¬s.2.1<Ey->s.2.1-Ey<wr.heap.size+2:=λs hs hq=>by
      have:=((hm.sl s hs).mp hq).2.1.lt;rwa[hsz]at this
     have hge0:w0.heap.size<=wr.heap.size+2:=by rw[<-hsz];exact hml
     generalize hW:(wr.alloc (.cells #[.int .i64 (p:Int)] 3)).alloc (.cells #[.int .i64 (q:Int)] 3)=w2 at*;have hrd:=(hm.row 0 rfl).boxed;have hrv:=(hm.row 1 rfl).boxed;generalize wr.heap.size=gv at*;have HSS:=HS;have hlen:=pf (if(q:Int)<p then 1 else 0) ((p:Int)-q).natAbs;have hcl:(fk p q).length<=520:=by rw[fk,hlen];omega
     have hLl:Hid ((dV t (k+1))=dV t k++fk p q):=aa (by rw[dV,HP.o,HQ.o]);have hll:=HLL.o k FP;clear hW hgd HD hml
     refine(wpIn_wide (n:=12)).1 (Sh (λx=>.int .i64 x) rfl FP (gf:=262) (lb:=#[.pointer (some ⟨gv+1,0,none⟩),.pointer (some ⟨gv,0,none⟩)]) rfl trivial (enters_of func262 FZ rfl) rfl gv FP (fk p q)
      (λpre W=>∃X v c,Lies 1 X v (dV t k++pre).length (vs .i64 (dV t k++pre))/\Own w0 W ((gv+1,#[.int .i64 (q:Int)])::(gv,#[c])::(go,#[v])::(gt,J .u8 t)::(X++rs)) ss/\∀D∈Ds,W.heap[D]?=some (.deferred (some [])))
      (λl J W hW hJI hJ hY h0=>a0j Fence.wide 11 trivial rfl FP (gv+1) hp2 hq2 J ((rQ (a:=⟨gv,0,none⟩) (hW _ (by show gv<_;omega))).trans hrv.1) ((xY (a:=⟨gv,0,none⟩) (hW _ (by show gv<_;omega))).trans hrv.2) (λpre A h=>by obtain⟨_,_,_,_,hm2,_⟩:=hJI pre A h;exact(hm2.row 0 rfl).boxed.1) hJ hY h0)
      ?own ?set ?start (λy=>{tmps:=#[.agg (J .u8 t),.pointer gt,.pointer go,.int .i64 0,.int .i64 (p:Int),u5,undef,.int .u8 (q:Int),.int .i64 y,.agg (J .u8 t),.bool true,.bool false,.pointer gt,.int .u8 (gi t 0),.int .i64 (gi t 0),.int .i64 4,.bool false,u17,u18,u19,u20,u21,u22,u23,u24,u25,u26,.agg (J .u8 t),.int .i64 (k:Int),.bool true,.int .u8 (q:Int),.int .i64 (p:Int),.int .u8 (q:Int),.int .i64 (q:Int),.func (.func 262) #[] #[.pointer (some ⟨gv+1,0,none⟩),.pointer (some ⟨gv,0,none⟩)],.int .i64 y,undef,undef,undef,undef,a40,a41,a42,undef],defers:=[]}) ?assign ?body ?done)
     case own=>
      rintro pre W W' row⟨X2,v2,c,hX2,hm2,hk2⟩hg hr;rw[hsz]at hr;refine⟨X2,v2,c,hX2,hm2.s5 hg hge0 hms hr,λD hD=>(hg.block D (ji.1 (hk2 D hD)).1 λe'=>?_).trans (hk2 D hD)⟩;have:=(hr _ e'.symm).1;have:=hlk D hD;omega
     case set=>
      rintro pre A v⟨X2,v2,c,hX2,hm2,hk2⟩;exact⟨X2,v2,v,hX2,hm2.setCell 1 0 v rfl,λD hD=>(KeepsOthers.setCell A ⟨gv,0,none⟩ v).same D _ (hk2 D hD) rfl⟩
     case start=>exact⟨X,_,_,by rw[fF];exact HX.o,hm,hD2⟩
     case assign=>
      intro l y W K hK
      gi_wp2
      exact hK
     case body=>
      rintro l pre y W⟨X2,v2,c,hX2,hm2,hk2⟩hlt2;obtain⟨ad2,cp2,rfl⟩:=hX2.shape;have HX2:=aa hX2;clear hX2 HX;have hle:(dV t k++pre).length<=1000000:=by rw[aV];omega
      generalize hN:(dV t k++pre).length=N at*;have hrb:=(hm2.row 1 rfl).boxed;refine wpIn_block (C6 ?hq rfl ?_)
      case hq=>rintro⟨_,_,h⟩;exact h
      have hm:dy W w0 W _ ss:=⟨hm2,KeepsOthers.refl _⟩;clear hm2
      go_wp2_with(first
      |refine A8 rfl (ld 2 hm.1 rfl rfl rfl (ot rfl) rfl) ?_
      |refine Ad rfl (L2 hm rfl HE.o (Ac rfl) rfl ?_);clear hm;intro w gb hm
      |(refine Ad rfl (ME (A:=[_,_,_,_,_]) (X:=X2) hm rfl HM.o (Ac rfl) HX2.o (Ac rfl) (λW h=>From.one (h.row 0 rfl)) (tJ rfl) FP FP FP ?_);clear hm HX2;intro X3 v3 w hX3 hm;simp only[s2]at hm;replace hm:=hm.dropRow;obtain⟨ad3,cp3,rfl⟩:=hX3.shape;have HX3:=aa hX3;clear hX3)
      |refine Ad rfl (SB 2 hm rfl rfl (Ac rfl) rfl (ot rfl) G5 rfl rfl rfl ?_);clear hm;intro w hm;try simp only[puts,s2,List.set,List.eraseIdx,s3]at hm)
      refine⟨hm.2.from _,λv hv=>?_,X3,_,c,?_,hm.1,λD hD=>hm.2.same D _ (hk2 D hD) rfl⟩
      .have e:=hrb.1.symm.trans hv;cases e;exact(hm.1.row 1 rfl).boxed
      .rw[<-aI,aV,hN,P7];exact HX3.o
     case done=>
      rintro D W hD⟨X2,v2,c,hX2,hm2,hk2⟩hK;go_wp2;refine⟨⟨k+1,q,D::Ds,X2,v2,_,_,_,_,_,_,_,_,_,_,rfl,FP,by rw[Nat.add_sub_cancel];exact HQ.o.symm,by rw[hLl.out];exact hX2,hm2.dropRow.dropRow,?_,?_,?_⟩,?_⟩
      .intro D' hD';rcases dh.1 hD' with rfl|hD'
       .exact⟨FP,hK⟩
       .exact⟨HDw.o D' hD',hk2 D' hD'⟩
      .exact dR.2 ⟨λh=>by have:=hlk D h;omega,HN.o⟩
      .intro s hs hq D' hD';rcases dh.1 hD' with rfl|hD'
       .exact Nat.lt_of_lt_of_le (hms s hs hq) FP
       .exact HS.o s hs hq D' hD'
      .simp[intOf];omega
    .obtain rfl:k=258:=FP
     have q2:decide (((258:Nat):Int)<258)=false:=rfl;have hmx:dy wr w0 wr _ ss:=⟨hm,KeepsOthers.refl _⟩;clear hm;have hm:=hmx;clear hmx
     go_wp2_with(first
     |refine A8 rfl (ld 0 hm.1 rfl rfl rfl (ot rfl) rfl) ?_
     |refine Ad rfl (SB 0 hm rfl rfl (Ac rfl) rfl (ot rfl) G5 rfl rfl rfl ?_);clear hm;intro w hm;try simp only[puts,s2,List.set,List.eraseIdx,s3]at hm)
     show LeavesInM Fence.wide 12 prog f199 _ _ (Ds.map mark) .returning w;refine Pa (λD hD=>⟨(HD.o D hD).1,hm.2.same D _ (HD.o D hD).2 rfl⟩) HN.o HS.o hm.1 (λW hm=>?_);exact⟨_,Kp rfl rfl GA ((hm.row 0 rfl).cell 0),X,_,rfl,HX.o,hm.dropRow.dropRow⟩
section
variable{q:Ob}{bs l t:ac}{ss:O1}{gw:Nat}{A rs:ae}{w w0:FC}
def Lies.oF{X:ae}{v:NY}(h:Lies 1 X v l.length (vs q l))(hm:Own w0 w (A++(X++rs)) ss):In q w v l:=by
 rcases(h.from hm).2 with⟨rfl,h0,_⟩|⟨ad,c,rfl,hc⟩
 .exact⟨none,0,by rw[h0],λi hi=>FP⟩
 .exact⟨_,_,rfl,λi hi=>⟨ad,rfl,hc i _ (Fg _ _ _ hi)⟩⟩
def JT{way:Int}(h:0<=way/\way<=1):∀k,Bits (i9 way k)
|0,x,hx=>by rw[fC.1 hx];decide
|k+1,x,hx=>by
  rcases dh.1 hx with rfl|hx
  .decide
  .rcases dh.1 hx with rfl|hx
   .omega
   .exact JT h k x hx
def DH(t:ac):∀i,Bits (m6 t i)
|0,x,hx=>by cases hx
|i+1,x,hx=>by
  rcases dG.1 hx with hx|hx
  .exact DH t i x hx
  .rw[fC.1 hx];omega
def ww(t:ac):∀k,Bits (dV t k)
|0=>DH t 4
|k+1=>λx hx=>by
  rcases dG.1 hx with hx|hx
  .exact ww t k x hx
  .exact JT (by split<;>omega) _ x hx
def vL{t:ac}(hl:t.length=258)(hb:Bytes t):∀{k},k<=258->(dV t k).length<=4+520*k
|0,_=>by rw[dV];exact aX _
|k+1,hk=>by
  have h1:=hb _ (cI t (k-1) FP);have h2:=hb _ (cI t k FP);have:=vL hl hb (k:=k) FP;rw[dV,aV,fk,pf];omega
def iA(t bs:ac):ac:=if JL t=true then bs++dV t 258 else bs
def Sx(hl:t.length=258)(hb:Bytes t)(hbs:Bits bs)(hlen:bs.length<=500000)(hm:gH w0 w gw bs rs ss):ak 158 #[gw,.agg (J .u8 t)] w λe w'=>(∃n,e=.returned (.int .i64 n))/\∃Z,gH w0 w' gw (iA t bs) (Z++rs) ss:=by
 obtain⟨X,u,hX,hm⟩:=hm;have HX:=aa hX;clear hX;have HL:=aa hl;have CO:Hid (∀W R,Own w0 W R ss->ak 199 #[.agg (J .u8 t)] W λe w'=>∃X v,e=.returned (.tuple #[v,.int .i64 (if JL t=true then 0 else 2)])/\Lies 1 X v (if JL t=true then dV t 258 else[]).length (vs .i64 (if JL t=true then dV t 258 else[]))/\Own w0 w' (X++R) ss):=λW R h=>a01 hl hb h;cases hok:JL t with
|false=>
  rw[hok]at CO;simp only[lU,jq]at CO;have HR:Hid (iA t bs=bs):=aa (by rw[iA,hok];rfl);rw[HR.o];clear hb;go_enter func158,ntmps158
  go_wp2_with(first
  |((with_reducible refine g1 ?_);refine uL hm (hl:=gM HL.o) ?_)
  |go_at_call 199;refine(CO.o _ _ hm).mono ?_;clear hm;rintro e w⟨Z,v,rfl,hZ,hm⟩;replace hm:=hm.sub (bG Z _) (aY _);clear hZ
  |refine U ?_;try(clear hm;intro w gt hm))
  go_ret;exact⟨⟨_,rfl⟩,[],X,u,HX.o,hm.dropRow⟩
|true=>
  rw[hok]at CO;simp only[fP]at CO;obtain⟨l,hll⟩:∃l,l=dV t 258:=⟨_,rfl⟩;have HR:Hid (iA t bs=bs++l.take l.length):=aa (by rw[iA,hok,aQ rfl,gY,hll]);have hlb:Bits l:=by rw[hll];exact ww t 258
  have hln:l.length<=200000:=by have:=vL hl hb (k:=258) FP;rw[hll];omega
  rw[<-hll]at CO;obtain⟨n,hnn⟩:∃n,n=l.length:=⟨_,rfl⟩;rw[HR.o,<-hnn];rw[<-hnn]at CO hln;have HN:=aa hnn;have HBD:Hid (∀k,k<n->0<=gi l k/\gi l k<=1):=λk hk=>by have:=hlb _ (cI l k FP);omega
  have CP:Hid (∀W(k:Nat)gt X u Z,k<n->Lies 1 X u (pack (bs++l.take k)).length (vs .u8 (pack (bs++l.take k)))->Own w0 W ((gt,J .u8 t)::(gw,#[u,.int .i64 (bs++l.take k).length])::(X++(Z++rs))) ss->ak 200 #[gw,.int .u32 (gi l k),.int .i64 1] W λe w'=>(∃b,e=.returned (.bool b))/\∃X' u',Lies 1 X' u' (pack (bs++l.take (k+1))).length (vs .u8 (pack (bs++l.take (k+1))))/\Own w0 w' ((gt,J .u8 t)::(gw,#[u',.int .i64 (bs++l.take (k+1)).length])::(X'++(Z++rs))) ss):=λW k gt X u Z hk hX h=>by
   have hB:=HBD.o k hk
   have e1:bs++l.take (k+1)=k6 (bs++l.take k) (gi l k) 1:=by
    rw[k6,aQ (by have:(2:Int)^1=2:=rfl;omega),FQ l k FP,aI,Jr,Jr];have:gi l k/2^0%2=gi l k:=by have:(2:Int)^0=1:=rfl;omega
    rw[this]
   rw[e1];have h1:Bits (bs++l.take k):=λx hx=>(dG.1 hx).elim (hbs x) λhx=>hlb x (jB hx);refine(NX (bs++l.take k) (gi l k) 1 h1 hB.1 FP FP (by rw[aV,fZ];omega) ⟨X,u,hX,h.perm (iy [_] (_::X) (Z++rs)).symm⟩).mono ?_;rintro e w'⟨hb,X',u',hX',h'⟩;exact⟨hb,X',u',hX',h'.perm (iy [_] (_::X') (Z++rs))⟩
  have e0:bs++l.take 0=bs:=by rw[mO,fF]
  have HX0:Hid (Lies 1 X u (pack (bs++l.take 0)).length (vs .u8 (pack (bs++l.take 0)))):=aa (by rw[e0];exact HX.o);rw[<-e0]at hm;clear hl hb hll hnn hlb e0 HX;obtain⟨i3,hE⟩:=nR;have HE:=aa hE;clear hE;go_enter func158,ntmps158
  go_wp2_with(first
  |((with_reducible refine g1 ?_);refine uL hm (hl:=gM HL.o) ?_)
  |(go_at_call 199;refine(CO.o _ _ hm).mono ?_;clear hm;rintro e w⟨Z,v,rfl,hZ,hm⟩;obtain⟨ad,cp,rfl⟩:=hZ.shape;replace hm:=hm.perm (iy (_::_::X) Z rs);have HZ:=aa hZ;clear hZ;simp only[eG]at hm)
  |refine U ?_;try(clear hm;intro w gt hm))
  have HA:Hid (∀W R k,k<n->Own w0 W (R++(Z++rs)) ss->∃A,ad=some A/\W.cell? (A.add k)=some (.int .i64 (gi l k))):=λW R k hk h=>by
   obtain⟨ad2,c2,e,hc⟩:=(show Lies 1 Z _ l.length (vs .i64 l) by rw[<-HN.o];exact HZ.o).oF h;cases e;exact hc k (by rw[<-HN.o];exact hk)
  go_loopw[22] (λu22 wr=>∃(k:Nat)(X:ae)(u:NY),k<=n/\u22=.int .i64 k/\Lies 1 X u (pack (bs++l.take k)).length (vs .u8 (pack (bs++l.take k)))/\Own w0 wr ((gt,J .u8 t)::(gw,#[u,.int .i64 (bs++l.take k).length])::(X++(Z++rs))) ss) (λu22 _=>n-(intOf u22).toNat)
  case atStart=>exact⟨0,X,u,FP,rfl,HX0.o,hm⟩
  case round=>
   clear hm HX0;obtain⟨k,X,u,hk,rfl,hX,hm⟩:=hrel;have HX:=aa hX;clear hX;rcases bF k n with hlt|hge
   .have q1:decide ((k:Int)<n)=true:=az;obtain⟨A,rfl,_⟩:=HA.o _ (_::_::X) k hlt hm;have HB:Hid (∀W R,Own w0 W (R++(Z++rs)) ss->W.cell? (A.add k)=some (.int .i64 (gi l k))):=λW R h=>by obtain⟨A2,e,h2⟩:=HA.o W R k hlt h;cases e;exact h2
    have CQ:=aa λW gt X u Z=>CP.o W k gt X u Z hlt;obtain⟨y0,y1⟩:=HBD.o k hlt;generalize gi l k=y at*;generalize hL1:bs++l.take (k+1)=L1 at*;generalize bs++l.take k=L0 at*
    go_wp2_with(first
    |refine A8 rfl (Am (k:=k) rfl HE.o rfl rfl rfl hlt) ?_
    |refine A8 rfl (AU rfl rfl (ot rfl) (HB.o _ (_::_::X) hm)) ?_
    |(go_at_call 200;refine(CQ.o _ _ _ _ _ HX.o hm).mono ?_;clear hm HX;rintro e w⟨⟨b,rfl⟩,X,u,hX,hm⟩;have HX:=aa hX;clear hX)
    |refine U ?_;try(clear hm;intro w gb hm))
    exact Ke
   .obtain rfl:k=n:=FP
    have q1:decide ((k:Int)<k)=false:=an;go_wp2;go_ret;exact⟨⟨_,rfl⟩,Z,X,u,HX.o,hm.dropRow⟩
end
end Go.Proofs.YtkpbhdhkdonghaaGreat
