/-
  Part 40 of the proof.
-/
import Derived.Test.YtkpbhdhkdonghaaGreatD39
set_option linter.all false
namespace Go.Proofs.YtkpbhdhkdonghaaGreat
open Go Go.RowKit
section
variable {P:Program} {e:En} {h:AH} {w0:Base} {w:World}
noncomputable def gX:List L_->List L_->Bool
|[],[]=>true
|x::l,y::m=>cond (Ky x y) (gX l m) false
|_,_=>false
noncomputable def A0L (a b:AO):Bool:=match a,b with
|.row x n,.row y m=>cond (Nat.beq n m) (Ky x y) false
|.ro x,.ro y=>Ky x y
|.big x,.big y=>gX x y
|_,_=>false
theorem XP:∀ {a b:List L_},gX a b=true->a=b
|[],[],_=>rfl
|[],_::_,h=>by cases h
|_::_,[],h=>by cases h
|x::l,y::m,h=>by
  have h':cond (Ky x y) (gX l m) false=true:=h;cases hx:Ky x y with
 |false=>rw [hx] at h';cases h'
 |true =>
   rw [hx] at h';rw [Gw hx,XP h']
theorem jW {a b:AO} (h:A0L a b=true):a=b:=by
 unfold A0L at h;split at h
 ·rename_i x n y m;cases hn:Nat.beq n m with
 |false=>rw [hn] at h;cases h
 |true =>
   rw [hn] at h;rw [n_q hn,Gw h]
 ·rw [Gw h]
 ·rw [XP h]
 ·cases h
noncomputable def hasAll (h:AH):List (Nat × AO)->Bool
|[]=>true
|(k,o)::l=>(match h.t.get k with|some o'=>A0L o' o|none=>false) && (Nat.ble k 16000000 && hasAll h l)
noncomputable def layAll (t:Tr AO):List (Nat × AO)->Tr AO
|[]=>t
|(k,o)::l=>(layAll t l).put k (some o)
noncomputable def I4 (t:Tr AO):List (Nat × AO)->Tr AO
|[]=>t
|(k,_)::l=>(I4 t l).put k none
theorem Ip:∀ {l:List (Nat × AO)},hasAll h l=true->∀ k o,(k,o) ∈ l->h.t.get k=some o/\k < BIG
|[],_,k,o,hm=>by cases hm
|(j,p)::l,hx,k,o,hm=>by
  unfold hasAll at hx;simp only [b_t] at hx;obtain ⟨h1,h2,h3⟩:=hx;rcases List.mem_cons.1 hm with hm|hm
  ·cases hm;split at h1
   ·rename_i o' ho;rw [ho,jW h1];have:=n_l h2;exact ⟨rfl,by show j < 16777216;omega⟩
   ·cases h1
  ·exact Ip h3 k o hm
theorem Fb (t:Tr AO):∀ {l:List (Nat × AO)},(∀ k o,(k,o) ∈ l->k < BIG)->∀ k o,k < BIG->(layAll t l).get k=some o->(k,o) ∈ l\/((∀ o',(k,o') ∉ l)/\t.get k=some o)
|[],_,k,o,_,h=>.inr ⟨fun o' h=>(by cases h),h⟩
|(j,p)::l,hb,k,o,hk,h=>by
  unfold layAll at h;rw [Tr.get_put _ _ (hb j p (by simp)) hk] at h;split at h
  ·rename_i hkj;cases h;subst hkj;exact .inl (by simp)
  ·rename_i hkj;rcases Fb t (fun k o hm=>hb k o (List.mem_cons_of_mem _ hm)) k o hk h with h1|⟨h1,h2⟩
   ·exact .inl (List.mem_cons_of_mem _ h1)
   ·refine .inr ⟨fun o' hm=>?_,h2⟩;rcases List.mem_cons.1 hm with hm|hm
    ·cases hm;exact hkj rfl
    ·exact h1 o' hm
theorem KX (t:Tr AO):∀ {l:List (Nat × AO)},(∀ k o,(k,o) ∈ l->k < BIG)->∀ k o,k < BIG->(I4 t l).get k=some o->(∀ o',(k,o') ∉ l)/\t.get k=some o
|[],_,k,o,_,h=>⟨fun o' h=>(by cases h),h⟩
|(j,p)::l,hb,k,o,hk,h=>by
  unfold I4 at h;rw [Tr.get_put _ _ (hb j p (by simp)) hk] at h;split at h
  ·cases h
  ·rename_i hkj;obtain ⟨h1,h2⟩:=KX t (fun k o hm=>hb k o (List.mem_cons_of_mem _ hm)) k o hk h;refine ⟨fun o' hm=>?_,h2⟩;rcases List.mem_cons.1 hm with hm|hm
   ·cases hm;exact hkj rfl
   ·exact h1 o' hm
theorem HX.part {h':AH} (hr:HX e h w0 w) (hn:h'.n=h.n) (ht:∀ k o,k < BIG->h'.t.get k=some o->h.t.get k=some o):HX e h' w0 w :=
 ⟨hr.below,by rw [hn];exact hr.small,fun k x hk=>by rw [hn];exact hr.dom k x hk,fun k o hk ho=>hr.live k o hk (ht k o hk ho),fun k k' o o' g c c' hk hk' ho ho'=>hr.inj k k' o o' g c c' hk hk' (ht k o hk ho) (ht k' o' hk' ho')⟩
theorem QS (k:Nat):(.nil:Tr AO).get k=none:=Tr.get_nil k
theorem Vp {D:AI} (hD:∀ w0,Kt P D w0) {f:FuncId} {args:L_} {Hs K:List (Nat × AO)} {N:Nat} {v:Value} {h1:AH} (hx:D.call f args ⟨layAll .nil Hs,N⟩=some (v,h1)) (hH:hasAll h Hs=true) (hN:h.n=N) (hK:hasAll h1 K=true)
  {args':L_} (hargs:VRs e args args') (hr:HX e h w0 w) :
  Calls P f args'.toArray w fun x w'=>∃ u e',x=.returned u/\e.le e'/\VR e' v u/\HX e' ⟨layAll (I4 h.t Hs) K,h1.n⟩ w0 w':=by
 have hHm:=Ip hH;have hKm:=Ip hK;have hHB:∀ k o,(k,o) ∈ Hs->k < BIG:=fun k o hm=>(hHm k o hm).2;have hKB:∀ k o,(k,o) ∈ K->k < BIG:=fun k o hm=>(hKm k o hm).2
 have hsub:∀ k o,k < BIG->(layAll .nil Hs).get k=some o->h.t.get k=some o/\(k,o) ∈ Hs:=fun k o hk ho=>by
  rcases Fb .nil hHB k o hk ho with h1|⟨_,h2⟩
  ·exact ⟨(hHm k o h1).1,h1⟩
  ·rw [QS] at h2;cases h2
 have hs:HX e ⟨layAll .nil Hs,N⟩ w0 w:=hr.part hN.symm fun k o hk ho=>(hsub k o hk ho).1
 let F:Nat->Prop:=fun g=>∃ k o c,k < BIG/\(∀ o',(k,o') ∉ Hs)/\h.t.get k=some o/\e k=some (g,c)
 have hF:∀ g,F g->g < w.heap.size:=fun g ⟨k,o,c,hk,_,ho,hke⟩=>(hr.at hke ho).2.lt
 have hG:=hs.guard (F:=F) hF (fun k o g c hk ho hke ⟨k2,o2,c2,hk2,hn2,ho2,hke2⟩=>by
  obtain ⟨q1,q2⟩:=hsub k o hk ho;have:=hr.inj k k2 o o2 g c c2 hk hk2 q1 ho2 hke hke2;subst this
  exact hn2 o q2)
 refine ((hD _).call.ok f args ⟨layAll .nil Hs,N⟩ v h1 hx e w args' hargs hG).mono ?_;rintro x w' ⟨u,e1,rfl,z1,z2,z3⟩;obtain ⟨y1,y2⟩:=hs.NR z3
 have hget:∀ k o,k < BIG->(layAll (I4 h.t Hs) K).get k=some o->h1.t.get k=some o\/((∀ o',(k,o') ∉ Hs)/\h.t.get k=some o):=fun k o hk ho=>by
  rcases Fb _ hKB k o hk ho with q|⟨_,q⟩
  ·exact .inl (hKm k o q).1
  ·exact .inr (KX h.t hHB k o hk q)
 have hrest:∀ k o,k < BIG->(∀ o',(k,o') ∉ Hs)->h.t.get k=some o->∃ g c,e k=some (g,c)/\¬ w0.K g/\OR e w g c o/\F g:=fun k o hk hn ho=>by
  obtain ⟨g,c,q1,q2,q3⟩:=hr.live k o hk ho;exact ⟨g,c,q1,q2,q3,k,o,c,hk,hn,ho,q1⟩
 have hfar:∀ k o g c,k < BIG->h1.t.get k=some o->e1 k=some (g,c)->¬ F g:=fun k o g c hk ho hke hFg=>by
  obtain ⟨g',c',q1,q2,_⟩:=z3.live k o hk ho;rw [hke] at q1;cases q1;exact q2 (.inr hFg)
 refine ⟨u,e1,rfl,z1,z2,⟨y1.below,y1.small,y1.dom,fun k o hk ho=>?_,fun k k' o o' g c c' hk hk' ho ho' a1 a2=>?_⟩⟩
 ·rcases hget k o hk ho with q|⟨q1,q2⟩
  ·exact y1.live k o hk q
  ·obtain ⟨g,c,p1,p2,p3,p4⟩:=hrest k o hk q1 q2;exact ⟨g,c,z1 _ _ p1,p2,(p3.block (y2 g p4)).mono z1⟩
 ·rcases hget k o hk ho with q|⟨q1,q2⟩
  ·rcases hget k' o' hk' ho' with r|⟨r1,r2⟩
   ·exact y1.inj k k' o o' g c c' hk hk' q r a1 a2
   ·obtain ⟨g2,c2,p1,_,_,p4⟩:=hrest k' o' hk' r1 r2;have:=z1 _ _ p1;rw [a2] at this;cases this;exact absurd p4 (hfar k o g c hk q a1)
  ·obtain ⟨g1,c1,p1,_,_,p4⟩:=hrest k o hk q1 q2;have e1k:=z1 _ _ p1;rw [a1] at e1k;cases e1k;rcases hget k' o' hk' ho' with r|⟨r1,r2⟩
   ·exact absurd p4 (hfar k' o' g c' hk' r a2)
   ·obtain ⟨g2,c2,p1',_,_,_⟩:=hrest k' o' hk' r1 r2;have:=z1 _ _ p1';rw [a2] at this;cases this;exact hr.inj k k' o o' g c c' hk hk' q2 r2 p1 p1'
end
end Go.Proofs.YtkpbhdhkdonghaaGreat
