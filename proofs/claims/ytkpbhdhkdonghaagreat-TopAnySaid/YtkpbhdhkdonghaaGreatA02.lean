/-
  Part 2 of the proof.
-/
import Derived.OrdersHeld
import Derived.Test.YtkpbhdhkdonghaaGreatA01
set_option linter.all false
namespace Go.Proofs.YtkpbhdhkdonghaaGreat
open Go Go.RowKit
variable {a:Act} {l:Q_} {i id:Nat} {o:Oper} {w w':World} {S:World->Prop}
section
variable {P:Program} {ops:O_} {Q:Exit->P_}
theorem Gz {md:Region.Mode} {S S':World->Prop} (hs:∀ W,S' W->S W):∀ (fuel:Nat) (listed:Array Bool) (a:Act) (w:World),wpAnyH P md ops Q S' fuel listed a w->wpAnyH P md ops Q S fuel listed a w
|0,_,_,_,h=>h
|fuel+1,_,_,_,h=>⟨h.1,fun i hi=>wpOp_mono (fun a' w' h'=>⟨hs _ h'.1,Gz hs fuel _ a' w' h'.2⟩) (h.2 i hi)⟩
def RU (ops:O_):Array Bool->List (Nat × Bool)->Bool
|listed,[]=>(Region.ready .any ops listed).isEmpty
|listed,(i,true)::r=>Region.free .any ops listed i && (Region.ready .any ops listed).contains i && RU ops (listed.setIfInBounds i true) r
|listed,(i,false)::r=>(Region.ready .any ops listed == [i]) && RU ops (listed.setIfInBounds i true) r
def Ej (P:Program) (ops:O_) (Q:Exit->P_):List (Nat × Bool)->(World->Prop)->P_
|[],_,a,w=>Q .normal a w
|(i,true)::r,S,a,w=>∃ o v,ops[i]?=some o/\YieldsIf P ops S o v a/\Ej P ops Q r S (a.put o.dst v) w
|(i,false)::r,S,a,w=>wpOp P ops Q i (fun a' w'=>∃ S':World->Prop,(∀ W,S' W->S W)/\S' w'/\Ej P ops Q r S' a' w') a w
theorem Kw (hs:Region.noSelect ops=true) (hQ:∀ c a d v w,Q (.panic c) (a.put d v) w->Q (.panic c) a w):∀ (r:List (Nat × Bool)) (S:World->Prop) (listed:Array Bool) (a:Act) (w:World),
  RU ops listed r=true->S w->Ej P ops Q r S a w->wpAnyH P .any ops Q S r.length listed a w
|[],_,_,_,_,hB,_,h=>wpAnyH_done (by simpa [RU] using hB) h 0
|(i,true)::r,S,listed,a,w,hB,hS,h=>by
  simp only [RU,b_t] at hB;obtain ⟨o,v,ho,hy,h⟩:=h;exact wpAnyH_take ho hs hB.1.1 hB.1.2 (fun c a w=>hQ c a o.dst v w) hy hS (Kw hs hQ r S _ _ _ hB.2 hS h)
|(i,false)::r,S,listed,a,w,hB,hS,h=>by
  simp only [RU,b_t,beq_iff_eq] at hB;refine wpAnyH_all hB.1 (by simp) fun j hj=>?_;obtain rfl:=List.mem_singleton.1 hj;refine wpOp_mono ?_ h;rintro a' w' ⟨S',h1,h2,h3⟩;exact ⟨h1 _ h2,Gz h1 _ _ _ _ (Kw hs hQ r S' _ _ _ hB.2 h2 h3)⟩
theorem D7 (r:List (Nat × Bool)) (S:World->Prop) (hm:P.follows .mixedOrders=true) (hs:Region.noSelect l.toArray=true) (hlen:r.length=l.toArray.size)
  (hB:RU l.toArray (Array.replicate l.toArray.size false) r=true) (hQ:∀ c a d v w,Q (.panic c) (a.put d v) w->Q (.panic c) a w) (hS:S { w with drawn:=w.drawn+1 })
  (h:Ej P l.toArray Q r S a { w with drawn:=w.drawn+1 }):(Code.region id l.toArray true).wp P Q a w :=
 wp_region_held hm (by have H:=Kw hs hQ r S _ a _ hB hS h;rw [hlen] at H;exact H)
theorem IY (h:Q .normal a w):Ej P ops Q [] S a w:=h
theorem NZ {r:List (Nat × Bool)} {v:Value} (ho:ops[i]?=some o) (hw:Region.wanted o (yielded ops a.tmps)=true)
  (hrun:∀ W,S W->(execOp a.eval o).run P W=.ok (.value v) W) (h:Ej P ops Q r S (a.put o.dst v) w):Ej P ops Q ((i,true)::r) S a w :=
 ⟨o,v,ho,.inl ⟨hw,hrun⟩,h⟩
theorem WY {r:List (Nat × Bool)} (ho:ops[i]?=some o) (hw:Region.wanted o (yielded ops a.tmps)=true)
  (h:∀ K:P_,(∀ a' w',(∃ S':World->Prop,(∀ W,S' W->S W)/\S' w'/\Ej P ops Q r S' a' w')->K a' w')->o.wp P a w K Q):Ej P ops Q ((i,false)::r) S a w:=by
 unfold Ej wpOp;simp only [ho,hw,if_true];exact .inl (h _ fun _ _ h=>h)
theorem A07 {r:List (Nat × Bool)} {v:Value} (ho:ops[i]?=some o) (hw:Region.wanted o (yielded ops a.tmps)=true)
  (hrun:(execOp a.eval o).run P w=.ok (.value v) w') (hS:S w') (h:Ej P ops Q r S (a.put o.dst v) w'):Ej P ops Q ((i,false)::r) S a w :=
 WY ho hw fun K hK=>by unfold Oper.wp;rw [hrun];exact hK _ _ ⟨S,fun _ h=>h,hS,h⟩
theorem lS {r:List (Nat × Bool)} (ho:ops[i]?=some o) (hw:Region.wanted o (yielded ops a.tmps)=true)
  (hrun:(execOp a.eval o).run P w=.ok .skip w') (hS:S w') (h:Ej P ops Q r S (a.put o.dst undef) w'):Ej P ops Q ((i,false)::r) S a w :=
 WY ho hw fun K hK=>by unfold Oper.wp;rw [hrun];exact hK _ _ ⟨S,fun _ h=>h,hS,h⟩
end
end Go.Proofs.YtkpbhdhkdonghaaGreat

namespace Go.Proofs.YtkpbhdhkdonghaaGreat.Pol
open Go Go.RowKit
section
variable {P:Program} {ops:O_} {Q:Exit->P_}
def A5y (ops:O_) (SS:List N_) (L:N_->Array Bool):Bool :=
 SS.all fun rem=>rem == [] || (Region.ready .any ops (L rem) == rem && rem.all fun i=>SS.contains (rem.erase i) && ((L rem).setIfInBounds i true == L (rem.erase i)) && ((rem.erase i).length+1 == rem.length))
theorem batch {SS:List N_} {L:N_->Array Bool} (hck:A5y ops SS L=true) {S:World->Prop} (inv:N_->World->Prop) (hS:∀ rem w,inv rem w->S w) {a:Act} {fuel:Nat}
  (hstep:∀ rem ∈ SS,∀ i ∈ rem,∀ w,inv rem w->wpOp P ops Q i (fun a' w'=>a'=a/\inv (rem.erase i) w') a w)
  (hend:∀ w,inv [] w->wpAnyH P .any ops Q S fuel (L []) a w):∀ (n:Nat) (rem:N_),rem ∈ SS->rem.length=n->∀ w,inv rem w->wpAnyH P .any ops Q S (n+fuel) (L rem) a w
|0,rem,_,hn,w,hw=>by
  obtain rfl:=List.length_eq_zero_iff.1 hn;rw [Nat.zero_add];exact hend w hw
|n+1,rem,hr,hn,w,hw=>by
  have hc:=List.all_eq_true.1 hck rem hr;have hne:rem ≠ []:=by rintro rfl;cases hn
  simp only [Bool.or_eq_true,beq_iff_eq,hne,false_or,b_t,l_t] at hc;rw [Nat.add_right_comm];refine wpAnyH_all hc.1 hne fun i hi=>?_;obtain ⟨⟨h1,h2⟩,h3⟩:=hc.2 i hi;refine wpOp_mono ?_ (hstep rem hr i hi w hw);rintro a' w' ⟨rfl,hw'⟩;refine ⟨hS _ _ hw',?_⟩;rw [h2];exact batch hck inv hS hstep hend n _ (List.contains_iff_mem.1 h1) (by omega) w' hw'
def A3w (ops:O_) (L0:Array Bool):Array Bool->List (Nat × Bool)->Bool
|listed,[]=>listed == L0
|listed,(k,true)::r=>Region.free .any ops listed k && (Region.ready .any ops listed).contains k && A3w ops L0 (listed.setIfInBounds k true) r
|listed,(k,false)::r=>(Region.ready .any ops listed == [k]) && A3w ops L0 (listed.setIfInBounds k true) r
def A3n (P:Program) (ops:O_) (Q:Exit->P_) (C:(World->Prop)->P_):List (Nat × Bool)->(World->Prop)->P_
|[],S,a,w=>C S a w
|(k,true)::r,S,a,w=>∃ o v,ops[k]?=some o/\YieldsIf P ops S o v a/\A3n P ops Q C r S (a.put o.dst v) w
|(k,false)::r,S,a,w=>wpOp P ops Q k (fun a' w'=>∃ S':World->Prop,(∀ W,S' W->S W)/\S' w'/\A3n P ops Q C r S' a' w') a w
theorem A3m (hs:Region.noSelect ops=true) (hQ:∀ c a d v w,Q (.panic c) (a.put d v) w->Q (.panic c) a w) {L0:Array Bool} {fuel:Nat} {C:(World->Prop)->P_} (hC:∀ S a w,S w->C S a w->wpAnyH P .any ops Q S fuel L0 a w):∀ (r:List (Nat × Bool)) (S:World->Prop) (listed:Array Bool) (a:Act) (w:World),
  A3w ops L0 listed r=true->S w->A3n P ops Q C r S a w->wpAnyH P .any ops Q S (r.length+fuel) listed a w
|[],S,listed,a,w,hB,hS,h=>by
  simp only [A3w,beq_iff_eq] at hB;rw [List.length_nil,Nat.zero_add,hB];exact hC S a w hS h
|(k,true)::r,S,listed,a,w,hB,hS,h=>by
  simp only [A3w,b_t] at hB;obtain ⟨o,v,ho,hy,h⟩:=h;rw [List.length_cons,Nat.add_right_comm];exact wpAnyH_take ho hs hB.1.1 hB.1.2 (fun c a w=>hQ c a o.dst v w) hy hS (A3m hs hQ hC r S _ _ _ hB.2 hS h)
|(k,false)::r,S,listed,a,w,hB,hS,h=>by
  simp only [A3w,b_t,beq_iff_eq] at hB;rw [List.length_cons,Nat.add_right_comm];refine wpAnyH_all hB.1 (by simp) fun m hm=>?_;obtain rfl:=List.mem_singleton.1 hm;refine wpOp_mono ?_ h;rintro a' w' ⟨S',h1,h2,h3⟩;exact ⟨h1 _ h2,Gz h1 _ _ _ _ (A3m hs hQ hC r S' _ _ _ hB.2 h2 h3)⟩
def A6E (P:Program) (ops:O_) (Q:Exit->P_) (SS:List N_) (B:N_) (r2:List (Nat × Bool)) (S:World->Prop) (a:Act) (w:World):Prop :=
 ∃ inv:N_->World->Prop,(∀ rem w,inv rem w->S w)/\inv B w/\(∀ rem ∈ SS,∀ i ∈ rem,∀ w,inv rem w->wpOp P ops Q i (fun a' w'=>a'=a/\inv (rem.erase i) w') a w)/\(∀ w,inv [] w->Ej P ops Q r2 S a w)
theorem A3Q {id:Nat} {l:Q_} {a:Act} {w:World} (r:List (Nat × Bool)) (SS:List N_) (L:N_->Array Bool) (B:N_) (r2:List (Nat × Bool)) (S:World->Prop) (hm:P.follows .mixedOrders=true) (hs:Region.noSelect l.toArray=true)
  (hlen:r.length+(B.length+r2.length)=l.toArray.size) (hck:A5y l.toArray SS L=true) (hBS:SS.contains B=true) (hB:A3w l.toArray (L B) (Array.replicate l.toArray.size false) r=true) (hB2:RU l.toArray (L []) r2=true)
  (hQ:∀ c a d v w,Q (.panic c) (a.put d v) w->Q (.panic c) a w) (hS:S { w with drawn:=w.drawn+1 })
  (h:A3n P l.toArray Q (A6E P l.toArray Q SS B r2) r S a { w with drawn:=w.drawn+1 }):(Code.region id l.toArray true).wp P Q a w:=by
 refine wp_region_held (S:=S) hm ?_;have H:=A3m (L0:=L B) (fuel:=B.length+r2.length) hs hQ (fun S a w _ hc=>?_) r S _ a _ hB hS h
 ·rw [hlen] at H;exact H
 ·obtain ⟨inv,h1,h2,h3,h4⟩:=hc;exact batch hck inv h1 h3 (fun w hw=>Kw hs hQ r2 S _ _ _ hB2 (h1 _ _ hw) (h4 w hw)) _ B (List.contains_iff_mem.1 hBS) rfl w h2
end
end Go.Proofs.YtkpbhdhkdonghaaGreat.Pol
