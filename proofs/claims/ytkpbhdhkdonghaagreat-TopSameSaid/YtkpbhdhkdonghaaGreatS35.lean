/- Part 35 of the proof. -/
import Derived.Test.YtkpbhdhkdonghaaGreatS33
import Derived.Test.YtkpbhdhkdonghaaGreatS34
set_option linter.all false
set_option maxRecDepth 100000
namespace Go.Proofs.YtkpbhdhkdonghaaGreat
open Go Go.RowKit Go.ChangeShapes Go.WideShapes Go.ChangeAt
set_option linter.unusedVariables false
section
variable{H:Type}{enc:TypeId×Value->H}{W:FC}{base:Nat}{sp:Nat->Bool}{held:Bool}
def AcS{fuel:Nat}{u:NY}{y:DataW H×List MemPlace}(hf:DataW.trod enc Tryz.prog W base sp held fuel 22 [u]=some y):∃b,cC .u8 W u b/\Bytes b/\b.length<=maxLen:=by
 rcases open_ints Tryz.underlying22 Tryz.underlying5 FZ hf with⟨hcs,_⟩|⟨x,l,c,zs,hcs,_,hl,hm,hz,_,hcell,hwz⟩
 .cases hcs;exact⟨[],⟨none,0,rfl,G5,λi hi=>absurd hi G5⟩,λx hx=>absurd hx G5,G5⟩
 .cases hcs;have hlz:l<=zs.length:=by rw[hz];split<;>omega
  have ht:(zs.take l).length=l:=by rw[fZ];omega
  refine⟨zs.take l,⟨some x,c,by rw[ht],FP,λi hi=>⟨x,rfl,?_⟩⟩,λy hy=>byte_of (hwz y (jB hy)),FP⟩;rw[ht]at hi;rw[hcell i FP];simp[gi,fU,hi]
def Acf{α:Type}{n:Nat}{R:Nat->α->Prop}:(∀i,i<n->∃b,R i b)->∃l:List α,l.length=n/\∀i(h:i<l.length),R i l[i]:=by
 intro h
 induction n with
|zero=>exact⟨[],rfl,λi h=>absurd h (Nat.not_lt_zero _)⟩
|succ n ih=>
  obtain⟨l,hl,hr⟩:=ih λi hi=>h i FP;obtain⟨b,hb⟩:=h n FP;refine⟨l++[b],by simp[hl],λi hi=>?_⟩;rcases bF i l.length with h2|h2
  .rw[Fp h2];exact hr i h2
  .obtain rfl:i=n:=by simp at hi;omega
   rw[List.getElem_append_right h2];simpa using hb
def AdB{v:NY}{d:DataW H}{p:List MemPlace}{r:Reach}{b0:Nat}(hok:Value.okWide Tryz.prog W r b0 34 v)(hd:DataW.Trod enc Tryz.prog W base sp held 34 v d p):
  ∃ps,lf W v ps/\ps.length<=maxLen/\∀q∈ps,q.length<=maxLen:=by
 obtain⟨ad,len,cap,rfl⟩:=okWide_slice Tryz.underlying34 hok;obtain⟨fuel,hf⟩:=hd;rcases DataW.trod_slice Tryz.underlying34 hf with⟨hcs,_⟩|⟨a,l,c,elems,rest,n,_,hcs,_,_,hl,hm,hel,h,_⟩
 .simp[Value.cells]at hcs;obtain⟨rfl,rfl,rfl⟩:=hcs;exact⟨[],⟨none,0,rfl,λi hi=>absurd hi G5⟩,G5,λq hq=>absurd hq G5⟩
 .simp[Value.cells]at hcs;obtain⟨rfl,rfl,rfl⟩:=hcs
  have key:∀i,i<len->∃b u,W.cell? (a.add i)=some u/\cC .u8 W u b/\Bytes b/\b.length<=maxLen:=λi hi=>by
   have h2:=h i hi;rw[show Tryz.prog.cellsOf 22=1 by kernel_rfl,kQ,fe FP,Option.bind_eq_some_iff]at h2;obtain⟨cs,hcs,hy⟩:=h2
   obtain⟨u,rfl⟩:∃u,cs=[u]:=by
    unfold World.cells? at hcs;split at hcs
    .cases hc:W.cell? ((a.add i).add 0)with
    |none=>simp[hc]at hcs
    |some u=>
      simp[hc]at hcs;exact⟨u,hcs.symm⟩
    .cases hcs
   obtain⟨b,h3,h4,h5⟩:=AcS hy;exact⟨b,u,cell_of_cells?_one hcs,h3,h4,h5⟩
  obtain⟨ps,h1,h2⟩:=Acf key;subst h1;refine⟨ps,⟨some a,cap,rfl,λi hi=>?_⟩,FP,λq hq=>?_⟩
  .obtain⟨u,h3,h4,h5,_⟩:=h2 i hi;exact⟨a,u,rfl,h3,h4,h5⟩
  .obtain⟨i,hi,rfl⟩:=zf.1 hq;obtain⟨_,_,_,_,h6⟩:=h2 i hi;exact h6
end
def AgC{v3:NY}{ps:List ac}{w:FC}(hv:lf w v3 ps)(hps:ps.length<=maxLen)(hpl:∀q∈ps,q.length<=maxLen){n one two at' by' cut:Int}(hy:(Lit.int .u8 by').wf=true):Calls Tryz.prog 4 #[.int .i64 n,.int .i64 one,.int .i64 two,v3,.int .i64 at',.int .u8 by',.int .i64 cut] w (RB w (.bool true)):=by
 cases h1:fT ps n one cut with
|false=>exact M1 yl hv hps hpl (.inl h1)
|true=>
  cases h2:fT ps n two cut with
 |false=>exact M1 yl hv hps hpl (.inr ⟨h1,h2⟩)
 |true=>
   obtain⟨_,_,n1,_,_,c1,_,p1,_⟩:=eF h1;obtain⟨_,_,_,_,_,_,_,p2,_⟩:=eF h2
   have k1:∀b:Int,(Pol.pk b n 1).2=0->1<=b:=λb h=>by
    unfold Pol.pk at h;split at h
    .rename_i h3;exact h3.2.1
    .cases h
   have o1:=k1 _ p1;have t1:=k1 _ p2;obtain⟨n',rfl⟩:=dB (show 0<=n by omega);obtain⟨c',rfl⟩:=dB (show 0<=cut by omega);obtain⟨o',rfl⟩:=dB (show 0<=one by omega);obtain⟨t',rfl⟩:=dB (show 0<=two by omega);have hb:=byte_of hy;exact a1l yl hv hps hpl hb.1 hb.2 h1 h2 FP FP
end Go.Proofs.YtkpbhdhkdonghaaGreat
