/- Part 31 of the proof. -/
import Derived.Test.YtkpbhdhkdonghaaGreatS26
import Derived.Test.YtkpbhdhkdonghaaGreatS30
set_option linter.all false
set_option maxHeartbeats 1000000
namespace Go.Proofs.YtkpbhdhkdonghaaGreat
open Go Tryz Go.RowKit
open Go.Sort
def flat(l:List Pr):ar:=l.flatMap eJ
def l6(a:Pr)(l:List Pr):flat (a::l)=.int .i64 a.1::.int .i64 a.2::flat l:=rfl
def fW:∀l:List Pr,(flat l).length=l.length*2
|[]=>rfl
|a::l=>by rw[l6];simp[fW l];omega
def rf:∀(l:List Pr)(i:Nat),i<l.length->(flat l)[i*2]?=some (.int .i64 (gp l i).1)/\(flat l)[i*2+1]?=some (.int .i64 (gp l i).2)
|[],i,h=>by simp at h
|a::l,0,_=>by rw[l6];exact⟨rfl,rfl⟩
|a::l,i+1,h=>by
  have ih:=rf l i GU;rw[l6,show(i+1)*2=i*2+1+1 by omega,l7,l7,l7,l7,ih.1,ih.2];simp[gp]
def Cg(l:List Pr)(t:Nat)(h:t<l.length*2):(flat l)[t]?=some ((eJ (gp l (t/2)))[t%2]!):=by
 have h1:=rf l (t/2) FP;rcases Fh t with e|e
 .rw[e,show t=t/2*2 by omega,h1.1];simp[eJ]
 .rw[e];have:t/2*2+1=t:=FP
  rw[this]at h1;rw[h1.2];rfl
def uu(l:List Pr)(i:Nat)(h:i<l.length):l.toArray[i]! =gp l i:=by
 simp[gp,h]
def GQ(l:List Pr)(t:Nat)(h:t<l.length*2):(flat l)[t]?=some (flatK eJ 2 l.toArray)[t]!:=by
 rw[get_flatK _ _ _ _ GU,uu l (t/2) FP];exact Cg l t h
def Zz(l:List Pr):∀v∈flat l,v.oneCell'=true:=by
 intro v hv;obtain⟨a,_,ha⟩:=List.mem_flatMap.1 hv;simp[eJ]at ha;rcases ha with rfl|rfl<;>rfl
def Below.grows(w:FC)(os:Array Obj):Below w.heap.size w (grow w os):=⟨rfl,rfl,rfl,by simp[grow],λk hk=>by
 show(w.heap++os)[k]?=_
 rw[zC hk]⟩
def AcL{F:ai}(l:List Pr)(h:F.size=l.length*2):setMany F 0 (flat l)=flatK eJ 2 l.toArray:=by
 apply uf
 .rw[size_setMany,size_flatK,h];simp
 .intro t h1 h2;rw[size_setMany]at h1;have e1:=get_setMany (flat l) 0 F t h1;have e2:=GQ l t FP;rw[aQ ⟨FP,by rw[fW];omega⟩,jc]at e1;have e3:(flat l)[t]?=some ((flat l)[t]!):=by rw[fe (by rw[fW];omega)];simp[List.getElem!_eq_getElem?_getD,show t<(flat l).length by rw[fW];omega]
  rw[e3]at e2;have e4:=Ea e2;rw[<-e1]at e4;have a1:(setMany F 0 (flat l))[t]! =(setMany F 0 (flat l))[t]'(by rw[size_setMany];exact h1):=by rw[getElem!_pos]
  have a2:(flatK eJ 2 l.toArray)[t]! =(flatK eJ 2 l.toArray)[t]:=by rw[getElem!_pos]
  rw[a1,a2]at e4;exact e4
section
variable{w0 w:FC}{rs:ae}{ss:O1}{g p n c:Nat}{cells:ai}{l:List Pr}
def Lies.Kf(hX:Lies 2 [(g,cells)] (.slice (some ⟨g,p,none⟩) n c) n (flat l))(hr:AA w g cells):HoldsK eJ 2 w g p l.toArray:=by
 intro j hj;have hj2:j<l.length*2:=by simpa using hj
 rw[hr.cell,hr.free,hX.cell (GQ l j hj2)];exact⟨rfl,rfl⟩
def Own.sorted(hm:Own w0 w ((g,cells)::rs) ss)(hX:Lies 2 [(g,cells)] (.slice (some ⟨g,p,none⟩) n c) n (flat l)){l':List Pr}(hl:l'.length=l.length)(q:Nat)(os:Array Obj):∃cells',Lies 2 [(g,cells')] (.slice (some ⟨g,p,none⟩) n c) n (flat l')/\Own w0 (sortWorldK eJ 2 w g p q l'.toArray os) ((g,cells')::rs) ss:=by
 have hm1:Own w0 (Sort.ahead w q) ((g,cells)::rs) ss:=hm.drawn (w.drawn+q);have hH:=hX.Kf (hm1.row 0 rfl);have e1:=setCells_putRow (Sort.ahead w q) g p (flat l') 0 (flatK eJ 2 l.toArray) (by rw[size_flatK,fW,hl];simp);rw[AcL _ (by rw[size_flatK,hl];simp),putRow_self id _ g p _ hH,mW]at e1;have hn:l.length=n:=by have:=hX.1;rw[fW]at this;omega
 have h2:=Own.setCells 0 (flat l') p (Sort.ahead w q) _ cells hm1 rfl;rw[e1]at h2;refine⟨J4 cells p (flat l'),?_,h2.call (Below.grows _ os)⟩;rcases hX.2 with⟨e,_⟩|⟨g',p',c',cells',e2,e3,hc,hs,hcells⟩
 .cases e
 .cases e2;cases e3
  have hfit:p+(flat l').length<=cells.size:=by
   have:n*2<=c*2:=rV 2 hc;rw[fW,hl,hn];omega
  refine Lies.io (by rw[fW,hl,hn]) hc (by rw[Qh];exact hs) λj hj=>?_;rw[TA _ _ _ _ hfit,aQ FP,show p+j-p=j by omega]
end
def W8(blk off:Nat){size:Nat}(w:FC):CmpLays prog 205 #[] eJ 2 cf blk off size w:=λ_ _ _ _ x y=>S5 x y
def AgM{w0 w:FC}{rs:ae}{ss:O1}{g p n c:Nat}{cells:ai}{l:List Pr}(hm:Own w0 w ((g,cells)::rs) ss)(hX:Lies 2 [(g,cells)] (.slice (some ⟨g,p,none⟩) n c) n (flat l))(hn:n<=1000000):ak 204 #[.slice (some ⟨g,p,none⟩) n c,.func (.func 205) #[] #[]] w λe w'=>e=.returned (.tuple #[])/\∃(l':List Pr)(cells':ai),l'.Perm l/\l'.Pairwise (λa b=>eh b a=false)/\Lies 2 [(g,cells')] (.slice (some ⟨g,p,none⟩) n c) n (flat l')/\Own w0 w' ((g,cells')::rs) ss:=by
 have eg:∀args w,(callFunc 205 args).run prog w=.ok (.enter 205 args) w:=enters_of func205 FZ rfl;have hl:l.length=n:=by have:=hX.1;rw[fW]at this;omega
 have hr:=hm.row 0 rfl;have hcon:=AnyQ.slices_SortFunc AhF 2 isAgg241 sizeOf241 eJ (λ_=>rfl) (λx v hv=>by simp[eJ]at hv;rcases hv with rfl|rfl<;>rfl) cf XP 205 #[] g p c l.toArray w eg (W8 g p w) (hX.Kf hr) hr.lt G8;have hsz0:l.toArray.size=n:=by simpa using hl
 rw[hsz0]at hcon;change ak 204 _ _ _ at hcon;refine hcon.mono ?_;rintro e w'⟨rfl,d',q,os,⟨hsz,_,hp⟩,hs,rfl⟩;obtain⟨l',rfl⟩:∃l':List Pr,d'=l'.toArray:=⟨d'.toList,G5⟩;have hl':l'.length=l.length:=by simpa using hsz
 obtain⟨cells',h1,h2⟩:=hm.sorted hX hl' q os;refine⟨rfl,l',cells',?_,?_,h1,h2⟩
 .have e1:(l'.toArray.extract 0 n).toList=l':=by simp;exact jC FP
  have e2:(l.toArray.extract 0 n).toList=l:=by simp;exact jC FP
  rw[e1,e2]at hp;exact hp
 .rw[og];intro i j hi hj hij;have:=hs i j FP hij FP;rw[rN,uu _ _ hj,uu _ _ hi,k7 _ _ hj,k7 _ _ hi]at this;exact this
end Go.Proofs.YtkpbhdhkdonghaaGreat
