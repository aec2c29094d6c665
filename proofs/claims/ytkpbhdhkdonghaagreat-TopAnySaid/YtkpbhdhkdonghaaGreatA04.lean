/-
  Part 4 of the proof.
-/
import Derived.Test.YtkpbhdhkdonghaaGreatA02
import Derived.Test.YtkpbhdhkdonghaaGreatA03
set_option linter.all false
namespace Go.Proofs.YtkpbhdhkdonghaaGreat
open Go Go.RowKit
section
variable {P:Program} {ops:O_} {Q:Exit->P_} {i:Nat} {r:List (Nat × Bool)} {S:World->Prop} {a:Act} {w w0:World} {o:Oper} {rs:Rws} {ss:List Sl}
theorem eu {ty:TypeId} (ho:o.op=.alloc ty) {cs:A_} (hz:∀ w,(zeroValue ty).run P w=.ok (.agg cs) w) :
  (execOp a.eval o).run P w=.ok (.value (.pointer (some ⟨w.heap.size,0,none⟩))) (w.alloc (.cells cs ty)):=xek
theorem Yk (j:Nat) (hm:Own w0 w rs ss) (ho:ops[i]?=some o) (hw:Region.wanted o (yielded ops a.tmps)=true) {ty:TypeId} {x y:Operand} (hop:o.op=.store ty x y) {g:Nat} (hx:a.eval x=.pointer (some ⟨g,0,none⟩)) {vs cs:A_} (hy:a.eval y=.agg vs)
  (hi:rs[j]?=some (g,cs)) (ht:Aq P ty vs.size) (hs:vs.size=cs.size) (h1:∀ v ∈ vs,v.oneCell'=true)
  (hS:∀ w',Own w0 w' (rs.set j (g,vs)) ss->S w') (h:∀ w',Own w0 w' (rs.set j (g,vs)) ss->Ej P ops Q r S (a.put o.dst undef) w'):Ej P ops Q ((i,false)::r) S a w:=by
 have hrun:=Gn (P:=P) (off:=0) hop hx hy (hm.row j hi) ht rfl (by omega) h1;rw [GI cs vs hs] at hrun;exact lS ho hw hrun (hS _ (hm.setRow j vs hi)) (h _ (hm.setRow j vs hi))
end
inductive OT where
|done:OT
|rd:Nat->OT->OT
|one:Nat->OT->OT
|two:Nat->OT->Nat->OT->OT
def OT.depth:OT->Nat
|.done=>0
|.rd _ t=>t.depth+1
|.one _ t=>t.depth+1
|.two _ t _ _=>t.depth+1
section
variable {P:Program} {ops:O_} {Q:Exit->P_}
def okT (ops:O_):Array Bool->OT->Bool
|l,.done=>(Region.ready .any ops l).isEmpty
|l,.rd i t=>Region.free .any ops l i && (Region.ready .any ops l).contains i && okT ops (l.setIfInBounds i true) t
|l,.one i t=>(Region.ready .any ops l == [i]) && okT ops (l.setIfInBounds i true) t
|l,.two i t j u=>(Region.ready .any ops l == [i,j]) && (u.depth == t.depth) && okT ops (l.setIfInBounds i true) t && okT ops (l.setIfInBounds j true) u
def wpT (P:Program) (ops:O_) (Q:Exit->P_):OT->(World->Prop)->P_
|.done,_,a,w=>Q .normal a w
|.rd i t,S,a,w=>∃ o v,ops[i]?=some o/\YieldsIf P ops S o v a/\wpT P ops Q t S (a.put o.dst v) w
|.one i t,S,a,w=>wpOp P ops Q i (fun a' w'=>∃ S':World->Prop,(∀ W,S' W->S W)/\S' w'/\wpT P ops Q t S' a' w') a w
|.two i t j u,S,a,w=>wpOp P ops Q i (fun a' w'=>∃ S':World->Prop,(∀ W,S' W->S W)/\S' w'/\wpT P ops Q t S' a' w') a w/\wpOp P ops Q j (fun a' w'=>∃ S':World->Prop,(∀ W,S' W->S W)/\S' w'/\wpT P ops Q u S' a' w') a w
theorem Jb (hs:Region.noSelect ops=true) (hQ:∀ c a d v w,Q (.panic c) (a.put d v) w->Q (.panic c) a w):∀ (t:OT) (S:World->Prop) (listed:Array Bool) (a:Act) (w:World),
  okT ops listed t=true->S w->wpT P ops Q t S a w->wpAnyH P .any ops Q S t.depth listed a w
|.done,S,listed,a,w,hB,_,h=>wpAnyH_done (by simpa [okT] using hB) h 0
|.rd i t,S,listed,a,w,hB,hS,h=>by
  simp only [okT,b_t] at hB;obtain ⟨o,v,ho,hy,h⟩:=h;exact wpAnyH_take ho hs hB.1.1 hB.1.2 (fun c a w=>hQ c a o.dst v w) hy hS (Jb hs hQ t S _ _ _ hB.2 hS h)
|.one i t,S,listed,a,w,hB,hS,h=>by
  simp only [okT,b_t,beq_iff_eq] at hB;refine wpAnyH_all hB.1 (by simp) fun j hj=>?_;obtain rfl:=List.mem_singleton.1 hj;refine wpOp_mono ?_ h;rintro a' w' ⟨S',h1,h2,h3⟩;exact ⟨h1 _ h2,Gz h1 _ _ _ _ (Jb hs hQ t S' _ _ _ hB.2 h2 h3)⟩
|.two i t j u,S,listed,a,w,hB,hS,h=>by
  simp only [okT,b_t,beq_iff_eq] at hB;refine wpAnyH_all hB.1.1.1 (by simp) fun k hk=>?_;rcases List.mem_cons.1 hk with rfl|hk
  ·refine wpOp_mono ?_ h.1;rintro a' w' ⟨S',h1,h2,h3⟩;exact ⟨h1 _ h2,Gz h1 _ _ _ _ (Jb hs hQ t S' _ _ _ hB.1.2 h2 h3)⟩
  ·obtain rfl:=List.mem_singleton.1 hk;refine wpOp_mono ?_ h.2;rintro a' w' ⟨S',h1,h2,h3⟩;rw [<- hB.1.1.2];exact ⟨h1 _ h2,Gz h1 _ _ _ _ (Jb hs hQ u S' _ _ _ hB.2 h2 h3)⟩
theorem IL {id:Nat} {l:Q_} {a:Act} {w:World} (t:OT) (S:World->Prop) (hm:P.follows .mixedOrders=true) (hs:Region.noSelect l.toArray=true) (hlen:t.depth=l.toArray.size)
  (hB:okT l.toArray (Array.replicate l.toArray.size false) t=true) (hQ:∀ c a d v w,Q (.panic c) (a.put d v) w->Q (.panic c) a w) (hS:S { w with drawn:=w.drawn+1 })
  (h:wpT P l.toArray Q t S a { w with drawn:=w.drawn+1 }):(Code.region id l.toArray true).wp P Q a w :=
 wp_region_held hm (by have H:=Jb hs hQ t S _ a _ hB hS h;rw [hlen] at H;exact H)
variable {i:Nat} {t:OT} {S:World->Prop} {a:Act} {w w' w0:World} {o:Oper} {rs:Rws} {ss:List Sl}
theorem XI (h:Q .normal a w):wpT P ops Q .done S a w:=h
theorem EW {v:Value} (ho:ops.toList[i]?=some o) (hw:Region.wanted o (yielded ops a.tmps)=true)
  (hrun:∀ W,S W->(execOp a.eval o).run P W=.ok (.value v) W) (h:wpT P ops Q t S (a.put o.dst v) w):wpT P ops Q (.rd i t) S a w :=
 ⟨o,v,by rw [<- a_g];exact ho,.inl ⟨hw,hrun⟩,h⟩
def lT (P:Program) (ops:O_) (Q:Exit->P_) (i:Nat) (t:OT) (S:World->Prop) (a:Act) (w:World):Prop:=wpOp P ops Q i (fun a' w'=>∃ S':World->Prop,(∀ W,S' W->S W)/\S' w'/\wpT P ops Q t S' a' w') a w
theorem yh (h:lT P ops Q i t S a w):wpT P ops Q (.one i t) S a w:=h
theorem iM (ho:ops.toList[i]?=some o) (hw:Region.wanted o (yielded ops a.tmps)=true)
  (h:∀ K:P_,(∀ a' w',(∃ S':World->Prop,(∀ W,S' W->S W)/\S' w'/\wpT P ops Q t S' a' w')->K a' w')->o.wp P a w K Q):lT P ops Q i t S a w:=by
 have ho':ops[i]?=some o:=by rw [<- a_g];exact ho
 unfold lT wpOp;simp only [ho',hw,if_true];exact .inl (h _ fun _ _ h=>h)
theorem Ym {v:Value} (ho:ops.toList[i]?=some o) (hw:Region.wanted o (yielded ops a.tmps)=true)
  (hrun:(execOp a.eval o).run P w=.ok (.value v) w') (hS:S w') (h:wpT P ops Q t S (a.put o.dst v) w'):lT P ops Q i t S a w :=
 iM ho hw fun K hK=>by unfold Oper.wp;rw [hrun];exact hK _ _ ⟨S,fun _ h=>h,hS,h⟩
theorem cu (ho:ops.toList[i]?=some o) (hw:Region.wanted o (yielded ops a.tmps)=true)
  (hrun:(execOp a.eval o).run P w=.ok .skip w') (hS:S w') (h:wpT P ops Q t S (a.put o.dst undef) w'):lT P ops Q i t S a w :=
 iM ho hw fun K hK=>by unfold Oper.wp;rw [hrun];exact hK _ _ ⟨S,fun _ h=>h,hS,h⟩
end
theorem Own.sub {w0 w:World} {rs rs':Rws} {ss ss':List Sl} (h:Own w0 w rs ss) (hr:rs'.Sublist rs) (hs:ss'.Sublist ss):Own w0 w rs' ss':=by
 refine ⟨⟨h.mem.below,fun p hp=>h.mem.own p (hr.subset hp),fun p hp=>h.mem.rows p (hr.subset hp),h.mem.apart.sublist (hr.map _)⟩,fun s hq=>h.sl s (hs.subset hq),?_⟩;exact List.Nodup.sublist ((hs.filterMap _).append (hr.map _)) h.apart
variable {l m:Array Bool} {rest:Q_} {id k:Nat} {oi:Oper}
section
variable {P:Program} {ops:O_} {Q:Exit->P_}
def Shut (ops:O_) (l:Array Bool):Prop:=∀ m om,ops[m]?=some om->l.getD m false=true->∀ e ∈ om.after,Region.binds .any e=true->l.getD e.on false=true
theorem Shut.init (n:Nat):Shut ops (Array.replicate n false):=fun m om _ h=>by
 exfalso;by_cases hm:m < n
 ·simp [hm] at h
 ·simp [hm] at h
theorem Shut.set (h:Shut ops l) {j:Nat} (hj:j ∈ Region.ready .any ops l):Shut ops (l.setIfInBounds j true):=fun m om hm hl e he hb=>by
 by_cases hjm:j=m
 ·subst hjm;obtain ⟨_,o,ho,ha⟩:=mem_ready.1 hj;rw [hm] at ho;cases ho;exact getD_set_true (ha e he hb)
 ·rw [getD_set_ne false hjm] at hl;exact getD_set_true (h m om hm hl e he hb)
def marks (m:Array Bool) (o:Oper):Array Bool:=o.after.toList.foldl (fun m e=>if Region.binds .any e then m.setIfInBounds e.on true else m) m
def A2L (ops:O_):N_->Array Bool->Array Bool
|[],m=>m
|j::js,m=>A2L ops js (if m.getD j false then (match ops[j]? with|some o=>marks m o|none=>m) else m)
def Qv (ops:O_) (k:Nat):Array Bool:=A2L ops ((List.range ops.size).reverse) ((Array.replicate ops.size false).setIfInBounds k true)
theorem Qn {i j:Nat} (h:(m.setIfInBounds i true).getD j false=true):i=j\/m.getD j false=true:=by
 by_cases hij:i=j
 ·exact .inl hij
 ·rw [getD_set_ne false hij] at h;exact .inr h
theorem YJ {l:Array Bool} {k:Nat}:∀ (es:List Edge) (m:Array Bool),(∀ e ∈ es,Region.binds .any e=true->l.getD e.on false=true)->(∀ i,m.getD i false=true->i=k\/l.getD i false=true) ->
  ∀ i,(es.foldl (fun m e=>if Region.binds .any e then m.setIfInBounds e.on true else m) m).getD i false=true->i=k\/l.getD i false=true
|[],m,_,h,i,hi=>h i hi
|e::es,m,he,h,i,hi=>by
  refine YJ es _ (fun e' h'=>he e' (by simp [h'])) ?_ i hi;intro i hi;simp only at hi;split at hi
  ·rename_i hb;rcases Qn hi with rfl|hi
   ·exact .inr (he e (by simp) hb)
   ·exact h i hi
  ·exact h i hi
theorem jY {l:Array Bool} {k:Nat} (hl:Shut ops l) (hk:k ∈ Region.ready .any ops l):∀ (js:N_) (m:Array Bool),(∀ i,m.getD i false=true->i=k\/l.getD i false=true)->∀ i,(A2L ops js m).getD i false=true->i=k\/l.getD i false=true
|[],_,h,i,hi=>h i hi
|j::js,m,h,i,hi=>by
  refine jY hl hk js _ ?_ i hi;intro i hi;split at hi
  ·rename_i hj;split at hi
   ·rename_i o ho;refine YJ o.after.toList m ?_ h i hi;intro e he hb;have he':e ∈ o.after:=by simpa using he
    rcases h j hj with rfl|hlj
    ·obtain ⟨_,o',ho',ha⟩:=mem_ready.1 hk;rw [ho] at ho';cases ho';exact ha e he' hb
    ·exact hl j o ho hlj e he' hb
   ·exact h i hi
  ·exact h i hi
theorem fV {i:Nat} (hl:Shut ops l) (hk:k ∈ Region.ready .any ops l) (h:(Qv ops k).getD i false=true) (hik:i ≠ k):l.getD i false=true:=by
 refine (jY hl hk _ _ ?_ i h).resolve_left hik;intro j hj;rcases Qn hj with rfl|hj
 ·exact .inl rfl
 ·exfalso;by_cases hm:j < ops.size
  ·simp [hm] at hj
  ·simp [hm] at hj
def Ib (P:Program) (ops:O_) (Q:Exit->P_) (k:Nat) (S:World->Prop):Nat->Array Bool->P_
|0,l,a,w=>Region.ready .any ops l=[]/\Q .normal a w
|fuel+1,l,a,w=>(Region.ready .any ops l=[]->Q .normal a w) /\
  ∀ i ∈ Region.ready .any ops l,wpOp P ops Q i (fun a' w'=>((l.setIfInBounds i true).getD k false=false->S w')/\Ib P ops Q k S fuel (l.setIfInBounds i true) a' w') a w
theorem Rh {k:Nat} {S:World->Prop}:∀ (fuel:Nat) (l:Array Bool) (a:Act) (w:World),Ib P ops Q k S fuel l a w->wpAny P .any ops Q fuel l a w
|0,_,_,_,h=>h
|fuel+1,_,_,_,h=>⟨h.1,fun i hi=>wpOp_mono (fun a' w' h'=>Rh fuel _ a' w' h'.2) (h.2 i hi)⟩
theorem Qc {k k2:Nat} {S S2:World->Prop}:∀ (fuel:Nat) (l:Array Bool) (a:Act) (w:World),l.getD k false=true->Ib P ops Q k2 S2 fuel l a w->Ib P ops Q k S fuel l a w
|0,_,_,_,_,h=>h
|fuel+1,l,_,_,hk,h=>⟨h.1,fun i hi=>wpOp_mono (fun a' w' h'=>⟨fun h0=>(by rw [getD_set_true hk] at h0;cases h0),Qc fuel _ a' w' (getD_set_true hk) h'.2⟩) (h.2 i hi)⟩
theorem IU {k:Nat} {S S':World->Prop} (hs:∀ W,S' W->S W):∀ (fuel:Nat) (l:Array Bool) (a:Act) (w:World),Ib P ops Q k S' fuel l a w->Ib P ops Q k S fuel l a w
|0,_,_,_,h=>h
|fuel+1,_,_,_,h=>⟨h.1,fun i hi=>wpOp_mono (fun a' w' h'=>⟨fun h0=>hs _ (h'.1 h0),IU hs fuel _ a' w' h'.2⟩) (h.2 i hi)⟩
theorem A2V {i:Nat} {S:World->Prop} {v:Value} (hi:ops[i]?=some oi) (hsel:∀ (j:Nat) (o:Oper) cs b,ops[j]?=some o->o.op ≠ .select cs b)
  (hQ:∀ c a w,Q (.panic c) (a.put oi.dst v) w->Q (.panic c) a w) (hik:i ≠ k) (hwt:∀ l,Shut ops l->k ∈ Region.ready .any ops l->l.getD i false=true) :
  ∀ (fuel:Nat) (l:Array Bool) (a:Act) (w:World),
   (∀ j oj,ops[j]?=some oj->j ≠ i->l.getD j true=false->(∀ e ∈ oj.after,Region.binds .any e=true->e.on ≠ i)->oi.apart ops oj=true) ->
   i ∈ Region.ready .any ops l->YieldsIf P ops S oi v a->S w->Shut ops l->l.getD k false=false ->
   Ib P ops Q k S fuel (l.setIfInBounds i true) (a.put oi.dst v) w->Ib P ops Q k S (fuel+1) l a w:=by
 intro fuel
 induction fuel with
|zero =>
  intro l a w _ hr hy hS hl hk H;refine ⟨fun h=>(by rw [h] at hr;cases hr),fun j hj=>?_⟩;by_cases hji:j=i
  ·subst hji;exact hy.wpOp hi hS ⟨fun _=>hS,H⟩
  ·have:=ready_mono hj hji;rw [H.1] at this;cases this
|succ fuel ih =>
  intro l a w hfree hr hy hS hl hk H;refine ⟨fun h=>(by rw [h] at hr;cases hr),fun j hj=>?_⟩;by_cases hji:j=i
  ·subst hji;exact hy.wpOp hi hS ⟨fun _=>hS,H⟩
  ·have h1:=H.2 j (ready_mono hj hji);obtain ⟨hjun,oj,hoj,hall⟩:=mem_ready.1 hj
   have hi0:l.getD i false=false:=by
    exact xdb
   have hnot:∀ e ∈ oj.after,Region.binds .any e=true->e.on ≠ i:=fun e he hb heq=>by
    have h1:=hall e he hb;rw [heq,hi0] at h1;cases h1
   have hjk:j ≠ k:=fun e=>by
    subst e;rw [hwt l hl hj] at hi0;cases hi0
   have hk':∀ x y:Nat,x ≠ k->(l.setIfInBounds x true).getD k false=false:=fun x _ hx=>by rw [getD_set_ne false hx];exact hk
   have hk2:((l.setIfInBounds i true).setIfInBounds j true).getD k false=false:=by rw [getD_set_ne false hjk];exact hk' i i hik
   have h2:=wpOp_putIf hoj (hfree j oj hoj hji hjun hnot) (fun cs b=>hsel i oi cs b hi) (fun cs b=>hsel j oj cs b hoj) hQ hy h1
   have hfree':∀ m om,ops[m]?=some om->m ≠ i->(l.setIfInBounds j true).getD m true=false ->
     (∀ e ∈ om.after,Region.binds .any e=true->e.on ≠ i)->oi.apart ops om=true:=fun m om hm hmi hun hno=>by
    exact xdq
   refine wpOp_mono (fun a' w' h3=>?_) h2;have hS':=h3.2.1 hk2;refine ⟨fun _=>hS',ih (l.setIfInBounds j true) a' w' hfree' (ready_mono hr (Ne.symm hji)) h3.1 hS' (hl.set hj) (hk' j j hjk) ?_⟩;rw [Array.setIfInBounds_comm _ _ hji];exact h3.2.2
theorem A2W {i:Nat} {S:World->Prop} {v:Value} (hi:ops[i]?=some oi) (hsel:∀ (j:Nat) (o:Oper) cs b,ops[j]?=some o->o.op ≠ .select cs b)
  (hQ:∀ c a w,Q (.panic c) (a.put oi.dst v) w->Q (.panic c) a w) (hik:i ≠ k) :
  ∀ (fuel:Nat) (l:Array Bool) (a:Act) (w:World),
   (∀ j oj,ops[j]?=some oj->j ≠ i->l.getD j true=false->(∀ e ∈ oj.after,Region.binds .any e=true->e.on ≠ i)->oi.apart ops oj=true) ->
   i ∈ Region.ready .any ops l->Yields P ops oi v a->(l.getD k false=false->S w) ->
   Ib P ops Q k S fuel (l.setIfInBounds i true) (a.put oi.dst v) w->Ib P ops Q k S (fuel+1) l a w:=by
 intro fuel
 induction fuel with
|zero =>
  intro l a w _ hr hy hS H;refine ⟨fun h=>(by rw [h] at hr;cases hr),fun j hj=>?_⟩;by_cases hji:j=i
  ·exact xeq
  ·have:=ready_mono hj hji;rw [H.1] at this;cases this
|succ fuel ih =>
  intro l a w hfree hr hy hS H;refine ⟨fun h=>(by rw [h] at hr;cases hr),fun j hj=>?_⟩;by_cases hji:j=i
  ·exact xeq
  ·have h1:=H.2 j (ready_mono hj hji);obtain ⟨hjun,oj,hoj,hall⟩:=mem_ready.1 hj
   have hi0:l.getD i false=false:=by
    exact xdb
   have hnot:∀ e ∈ oj.after,Region.binds .any e=true->e.on ≠ i:=fun e he hb heq=>by
    have h1:=hall e he hb;rw [heq,hi0] at h1;cases h1
   have h2:=wpOp_put hoj (hfree j oj hoj hji hjun hnot) (fun cs b=>hsel i oi cs b hi) (fun cs b=>hsel j oj cs b hoj) hQ hy h1
   have hfree':∀ m om,ops[m]?=some om->m ≠ i->(l.setIfInBounds j true).getD m true=false ->
     (∀ e ∈ om.after,Region.binds .any e=true->e.on ≠ i)->oi.apart ops om=true:=fun m om hm hmi hun hno=>by
    exact xdq
   refine wpOp_mono (fun a' w' h3=>?_) h2
   have hS':(l.setIfInBounds j true).getD k false=false->S w':=fun h=>h3.2.1 (by
    rw [Array.setIfInBounds_comm _ _ (Ne.symm hji),getD_set_ne false hik];exact h)
   refine ⟨hS',ih (l.setIfInBounds j true) a' w' hfree' (ready_mono hr (Ne.symm hji)) h3.1 hS' ?_⟩;rw [Array.setIfInBounds_comm _ _ hji];exact h3.2.2
inductive KT where
|done:KT
|rp:Nat->KT->KT
|rm:Nat->KT->KT
|one:Nat->KT->KT
|brk:Nat->Nat->KT->KT
|two:Nat->KT->Nat->KT->KT
def KT.depth:KT->Nat
|.done=>0
|.rp _ t=>t.depth+1
|.rm _ t=>t.depth+1
|.one _ t=>t.depth+1
|.brk _ _ t=>t.depth+1
|.two _ t _ _=>t.depth+1
def KT.rds:List (Nat × Bool)->KT->KT
|[],t=>t
|(i,false)::r,t=>.rp i (KT.rds r t)
|(i,true)::r,t=>.rm i (KT.rds r t)
def okK (ops:O_):Nat->Array Bool->Array Bool->KT->Bool
|_,_,l,.done=>(Region.ready .any ops l).isEmpty
|k,m,l,.rp i t=>i != k && Region.free .any ops l i && (Region.ready .any ops l).contains i && okK ops k m (l.setIfInBounds i true) t
|k,m,l,.rm i t=>i != k && (m.getD i false || decide (ops.size<=k)) && Region.free .any ops l i && (Region.ready .any ops l).contains i && okK ops k m (l.setIfInBounds i true) t
|k,m,l,.one i t=>i != k && (Region.ready .any ops l == [i]) && okK ops k m (l.setIfInBounds i true) t
|k,_,l,.brk i k2 t=>i == k && (Region.ready .any ops l == [i]) && !(l.setIfInBounds i true).getD k2 false && okK ops k2 (Qv ops k2) (l.setIfInBounds i true) t
|k,m,l,.two i t j u=>i != k && j != k && (Region.ready .any ops l == [i,j]) && (u.depth == t.depth) && okK ops k m (l.setIfInBounds i true) t && okK ops k m (l.setIfInBounds j true) u
def wpK (P:Program) (ops:O_) (Q:Exit->P_):KT->(World->Prop)->P_
|.done,_,a,w=>Q .normal a w
|.rp i t,S,a,w=>∃ o v,ops[i]?=some o/\Yields P ops o v a/\wpK P ops Q t S (a.put o.dst v) w
|.rm i t,S,a,w=>∃ o v,ops[i]?=some o/\YieldsIf P ops S o v a/\wpK P ops Q t S (a.put o.dst v) w
|.one i t,S,a,w=>wpOp P ops Q i (fun a' w'=>∃ S':World->Prop,(∀ W,S' W->S W)/\S' w'/\wpK P ops Q t S' a' w') a w
|.brk i _ t,_,a,w=>wpOp P ops Q i (fun a' w'=>∃ S':World->Prop,S' w'/\wpK P ops Q t S' a' w') a w
|.two i t j u,S,a,w=>wpOp P ops Q i (fun a' w'=>∃ S':World->Prop,(∀ W,S' W->S W)/\S' w'/\wpK P ops Q t S' a' w') a w/\wpOp P ops Q j (fun a' w'=>∃ S':World->Prop,(∀ W,S' W->S W)/\S' w'/\wpK P ops Q u S' a' w') a w
theorem UK (h:k ∈ Region.ready .any ops l):(l.setIfInBounds k true).getD k false=true:=by
 have h0:=(mem_ready.1 h).1;rcases Nat.lt_or_ge k l.size with h'|h'
 ·simp [h']
 ·simp [Array.getElem?_eq_none h'] at h0
theorem Gg (hs:Region.noSelect ops=true) (hQ:∀ c a d v w,Q (.panic c) (a.put d v) w->Q (.panic c) a w):∀ (t:KT) (k:Nat) (m:Array Bool) (S:World->Prop) (l:Array Bool) (a:Act) (w:World),
  (k < ops.size->m=Qv ops k)->okK ops k m l t=true->Shut ops l->l.getD k false=false->S w->wpK P ops Q t S a w->Ib P ops Q k S t.depth l a w
|.done,k,m,S,l,a,w,_,hB,_,_,_,h=>⟨by simpa [okK] using hB,h⟩
|.rp i t,k,m,S,l,a,w,hm,hB,hl,hk,hS,h=>by
  simp only [okK,b_t,bne_iff_ne] at hB;obtain ⟨o,v,ho,hy,h⟩:=h;have hr:i ∈ Region.ready .any ops l:=by simpa using hB.1.2
  exact A2W ho (Region.noSelect_spec hs) (fun c a w=>hQ c a o.dst v w) hB.1.1.1 _ l a w (Region.free_spec ho hB.1.1.2) hr hy (fun _=>hS)
   (Gg hs hQ t k m S _ _ _ hm hB.2 (hl.set hr) (by rw [getD_set_ne false hB.1.1.1];exact hk) hS h)
|.rm i t,k,m,S,l,a,w,hm,hB,hl,hk,hS,h=>by
  simp only [okK,b_t,bne_iff_ne,Bool.or_eq_true,decide_eq_true_eq] at hB;obtain ⟨o,v,ho,hy,h⟩:=h;have hr:i ∈ Region.ready .any ops l:=by simpa using hB.1.2
  have hik:=hB.1.1.1.1
  refine A2V ho (Region.noSelect_spec hs) (fun c a w=>hQ c a o.dst v w) hik ?_ _ l a w (Region.free_spec ho hB.1.1.2) hr hy hS hl hk
   (Gg hs hQ t k m S _ _ _ hm hB.2 (hl.set hr) (by rw [getD_set_ne false hik];exact hk) hS h)
  intro l' hl' hk'
  have hlt:k < ops.size:=by
   obtain ⟨_,o',ho',_⟩:=mem_ready.1 hk';exact (Array.getElem?_eq_some_iff.1 ho').1
  rcases hB.1.1.1.2 with h1|h1
  ·rw [hm hlt] at h1;exact fV hl' hk' h1 hik
  ·omega
|.one i t,k,m,S,l,a,w,hm,hB,hl,hk,hS,h=>by
  simp only [okK,b_t,bne_iff_ne,beq_iff_eq] at hB;have hr:i ∈ Region.ready .any ops l:=by rw [hB.1.2];simp
  refine ⟨fun h0=>(by rw [h0] at hr;cases hr),fun j hj=>?_⟩;rw [hB.1.2] at hj;obtain rfl:=List.mem_singleton.1 hj;refine wpOp_mono ?_ h;rintro a' w' ⟨S',h1,h2,h3⟩;exact ⟨fun _=>h1 _ h2,IU h1 _ _ _ _ (Gg hs hQ t k m S' _ _ _ hm hB.2 (hl.set hr) (by rw [getD_set_ne false hB.1.1];exact hk) h2 h3)⟩
|.brk i k2 t,k,m,S,l,a,w,hm,hB,hl,hk,hS,h=>by
  simp only [okK,b_t,beq_iff_eq,Bool.not_eq_true'] at hB;obtain ⟨⟨⟨rfl,h1⟩,h2⟩,h3⟩:=hB;have hr:i ∈ Region.ready .any ops l:=by rw [h1];simp
  refine ⟨fun h0=>(by rw [h0] at hr;cases hr),fun j hj=>?_⟩;rw [h1] at hj;obtain rfl:=List.mem_singleton.1 hj;refine wpOp_mono ?_ h;rintro a' w' ⟨S',g1,g2⟩;have hkk:=UK hr;exact ⟨fun h0=>(by rw [hkk] at h0;cases h0),Qc _ _ _ _ hkk (Gg hs hQ t k2 _ S' _ _ _ (fun _=>rfl) h3 (hl.set hr) h2 g1 g2)⟩
|.two i t j u,k,m,S,l,a,w,hm,hB,hl,hk,hS,h=>by
  simp only [okK,b_t,bne_iff_ne,beq_iff_eq] at hB;obtain ⟨⟨⟨⟨⟨b1,b2⟩,b3⟩,b4⟩,b5⟩,b6⟩:=hB;have hri:i ∈ Region.ready .any ops l:=by rw [b3];simp
  have hrj:j ∈ Region.ready .any ops l:=by rw [b3];simp
  refine ⟨fun h0=>(by rw [h0] at hri;cases hri),fun q hq=>?_⟩;rw [b3] at hq;rcases List.mem_cons.1 hq with rfl|hq
  ·refine wpOp_mono ?_ h.1;rintro a' w' ⟨S',h1,h2,h3⟩;exact ⟨fun _=>h1 _ h2,IU h1 _ _ _ _ (Gg hs hQ t k m S' _ _ _ hm b5 (hl.set hri) (by rw [getD_set_ne false b1];exact hk) h2 h3)⟩
  ·obtain rfl:=List.mem_singleton.1 hq;refine wpOp_mono ?_ h.2;rintro a' w' ⟨S',h1,h2,h3⟩;refine ⟨fun _=>h1 _ h2,?_⟩;have:=IU h1 _ _ _ _ (Gg hs hQ u k m S' _ _ _ hm b6 (hl.set hrj) (by rw [getD_set_ne false b2];exact hk) h2 h3);rw [b4] at this;exact this
theorem Kv {l:Q_} {a:Act} {w:World} (k:Nat) (t:KT) (S:World->Prop) (hm:P.follows .mixedOrders=true) (hs:Region.noSelect l.toArray=true) (hlen:t.depth=l.toArray.size)
  (hB:(!(Array.replicate l.toArray.size false).getD k false && okK l.toArray k (Qv l.toArray k) (Array.replicate l.toArray.size false) t)=true) (hQ:∀ c a d v w,Q (.panic c) (a.put d v) w->Q (.panic c) a w) (hS:S { w with drawn:=w.drawn+1 })
  (h:wpK P l.toArray Q t S a { w with drawn:=w.drawn+1 }):(Code.region id l.toArray true).wp P Q a w:=by
 simp only [b_t,Bool.not_eq_true'] at hB;refine wp_region_any hm (Rh (k:=k) (S:=S) _ _ _ _ ?_);have H:=Gg hs hQ t k _ S _ a _ (fun _=>rfl) hB.2 (Shut.init _) hB.1 hS h;rw [hlen] at H;exact H
theorem NP {l:Q_} {a:Act} {w w0:World} {rs:Rws} {ss:List Sl} (hO:Own w0 w rs ss) (k:Nat) (t:KT) (hm:P.follows .mixedOrders=true) (hs:Region.noSelect l.toArray=true) (hlen:t.depth=l.toArray.size)
  (hB:(!(Array.replicate l.toArray.size false).getD k false && okK l.toArray k (Qv l.toArray k) (Array.replicate l.toArray.size false) t)=true) (hQ:∀ c a d v w,Q (.panic c) (a.put d v) w->Q (.panic c) a w)
  (h:∀ w',Own w0 w' rs ss->wpK P l.toArray Q t (fun W=>Own w0 W rs ss) a w'):(Code.region id l.toArray true).wp P Q a w :=
 Kv k t _ hm hs hlen hB hQ (hO.drawn _) (h _ (hO.drawn _))
variable {i k2:Nat} {t:KT} {S:World->Prop} {a:Act} {w w' w0:World} {o:Oper} {rs:Rws} {ss:List Sl}
theorem Ba (h:Q .normal a w):wpK P ops Q .done S a w:=h
theorem K_p {v:Value} (ho:ops.toList[i]?=some o) (hw:Region.wanted o (yielded ops a.tmps)=true)
  (hrun:∀ W,(execOp a.eval o).run P W=.ok (.value v) W) (h:wpK P ops Q t S (a.put o.dst v) w):wpK P ops Q (.rp i t) S a w :=
 ⟨o,v,by rw [<- a_g];exact ho,.inl ⟨hw,hrun⟩,h⟩
theorem Bz (ho:ops.toList[i]?=some o) (hw:Region.wanted o (yielded ops a.tmps)=false)
  (h:wpK P ops Q t S (a.put o.dst undef) w):wpK P ops Q (.rp i t) S a w :=
 ⟨o,undef,by rw [<- a_g];exact ho,.inr ⟨hw,rfl⟩,h⟩
theorem K_m {v:Value} (ho:ops.toList[i]?=some o) (hw:Region.wanted o (yielded ops a.tmps)=true)
  (hrun:∀ W,S W->(execOp a.eval o).run P W=.ok (.value v) W) (h:wpK P ops Q t S (a.put o.dst v) w):wpK P ops Q (.rm i t) S a w :=
 ⟨o,v,by rw [<- a_g];exact ho,.inl ⟨hw,hrun⟩,h⟩
theorem D6 (ho:ops.toList[i]?=some o) (hw:Region.wanted o (yielded ops a.tmps)=false)
  (h:wpK P ops Q t S (a.put o.dst undef) w):wpK P ops Q (.rm i t) S a w :=
 ⟨o,undef,by rw [<- a_g];exact ho,.inr ⟨hw,rfl⟩,h⟩
def Eff (P:Program) (o:Oper) (a:Act) (w:World) (K:Value->World->Prop):Prop :=
 ∃ v w',((execOp a.eval o).run P w=.ok (.value v) w'\/((execOp a.eval o).run P w=.ok .skip w'/\v=undef))/\K v w'
theorem Eff.val {v:Value} {K:Value->World->Prop} (h:(execOp a.eval o).run P w=.ok (.value v) w') (hK:K v w'):Eff P o a w K:=⟨v,w',.inl h,hK⟩
theorem Eff.skip {K:Value->World->Prop} (h:(execOp a.eval o).run P w=.ok .skip w') (hK:K undef w'):Eff P o a w K:=⟨undef,w',.inr ⟨h,rfl⟩,hK⟩
theorem Eff.wp {K:Value->World->Prop} (h:Eff P o a w K) {F:P_} (hF:∀ v w',K v w'->F (a.put o.dst v) w'):o.wp P a w F Q:=by
 obtain ⟨v,w',h|⟨h,rfl⟩,hK⟩:=h
 ·unfold Oper.wp;rw [h];exact hF _ _ hK
 ·unfold Oper.wp;rw [h];exact hF _ _ hK
theorem Ad (hg:Region.wanted o (yielded ops a.tmps)=true) (h:Eff P o a w fun v w'=>wpList P ops Q rest (a.put o.dst v) w'):wpList P ops Q (o::rest) a w :=
 kN hg fun _ hK=>h.wp fun _ _ h=>hK _ _ h
theorem Dx {F:P_} (ho:ops.toList[i]?=some o) (hw:Region.wanted o (yielded ops a.tmps)=true) (h:∀ K:P_,(∀ a' w',F a' w'->K a' w')->o.wp P a w K Q):wpOp P ops Q i F a w:=by
 have ho':ops[i]?=some o:=by rw [<- a_g];exact ho
 unfold wpOp;simp only [ho',hw,if_true];exact .inl (h _ fun _ _ h=>h)
theorem DJ (ho:ops.toList[i]?=some o) (hw:Region.wanted o (yielded ops a.tmps)=true)
  (h:∀ K:P_,(∀ a' w',(∃ S':World->Prop,(∀ W,S' W->S W)/\S' w'/\wpK P ops Q t S' a' w')->K a' w')->o.wp P a w K Q):wpK P ops Q (.one i t) S a w:=Dx ho hw h
theorem PO (ho:ops.toList[i]?=some o) (hw:Region.wanted o (yielded ops a.tmps)=true)
  (h:∀ K:P_,(∀ a' w',(∃ S':World->Prop,S' w'/\wpK P ops Q t S' a' w')->K a' w')->o.wp P a w K Q):wpK P ops Q (.brk i k2 t) S a w:=Dx ho hw h
theorem Bo (ho:ops.toList[i]?=some o) (hw:Region.wanted o (yielded ops a.tmps)=true) (h:Eff P o a w fun v w'=>∃ S':World->Prop,(∀ W,S' W->S W)/\S' w'/\wpK P ops Q t S' (a.put o.dst v) w'):wpK P ops Q (.one i t) S a w :=
 DJ ho hw fun _ hK=>h.wp fun _ _ h=>hK _ _ h
theorem Em (ho:ops.toList[i]?=some o) (hw:Region.wanted o (yielded ops a.tmps)=true) (h:Eff P o a w fun v w'=>∃ S':World->Prop,S' w'/\wpK P ops Q t S' (a.put o.dst v) w'):wpK P ops Q (.brk i k2 t) S a w :=
 PO ho hw fun _ hK=>h.wp fun _ _ h=>hK _ _ h
theorem Ld {F:P_} (ho:ops.toList[i]?=some o) (hw:Region.wanted o (yielded ops a.tmps)=false) (h:F (a.put o.dst undef) w):wpOp P ops Q i F a w:=by
 have ho':ops[i]?=some o:=by rw [<- a_g];exact ho
 unfold wpOp;simp only [ho',hw,Bool.false_eq_true,if_false];exact h
theorem RX (hS:S w) (ho:ops.toList[i]?=some o) (hw:Region.wanted o (yielded ops a.tmps)=false) (h:wpK P ops Q t S (a.put o.dst undef) w):wpK P ops Q (.one i t) S a w :=
 Ld ho hw ⟨S,fun _ h=>h,hS,h⟩
theorem xB (hS:S w) (ho:ops.toList[i]?=some o) (hw:Region.wanted o (yielded ops a.tmps)=false) (h:wpK P ops Q t S (a.put o.dst undef) w):wpK P ops Q (.brk i k2 t) S a w :=
 Ld ho hw ⟨S,hS,h⟩
end
variable {a:Act} {l:Array Bool} {i id:Nat} {o:Oper} {w:World}
section
variable {P:Program} {ops:O_} {Q:Exit->P_}
def Gh (ops:O_):Bool:=(List.range ops.size).all fun i=>((ops[i]?).map (·.after.all fun e=>!Region.binds .any e || decide (e.on < i))).getD false
theorem Yd (hw:Gh ops=true):∀ (i:Nat),i < ops.size->l.getD i true=false->(∀ j,j < i->l.getD j false=true)->i ∈ Region.ready .any ops l:=by
 intro i hi hl hj;unfold Region.ready;rw [List.mem_filter];refine ⟨List.mem_range.2 hi,?_⟩;have h1:=List.all_eq_true.1 hw i (List.mem_range.2 hi);rw [hl];rw [Array.getElem?_eq_getElem hi] at h1 ⊢;simp only [Option.map_some,Option.getD_some,Bool.not_false,Bool.true_and,Array.all_eq_true] at h1 ⊢;intro k hk;have h2:=h1 k hk;rw [Bool.or_eq_true] at h2 ⊢;rcases h2 with h2|h2
 ·exact .inl h2
 ·exact .inr (hj _ (of_decide_eq_true h2))
theorem least {p:Nat->Prop}:∀ (n:Nat),p n->∃ m,p m/\m<=n/\∀ j,j < m->¬ p j:=by
 intro n
 induction n using Nat.strongRecOn with
|ind n ih =>
  intro hn;by_cases h:∃ j,j < n/\p j
  ·obtain ⟨j,h1,h2⟩:=h;obtain ⟨m,h3,h4,h5⟩:=ih j h1 h2;exact ⟨m,h3,by omega,h5⟩
  ·exact ⟨n,hn,Nat.le_refl _,fun j hj hp=>h ⟨j,hj,hp⟩⟩
theorem getD_in (h:i < l.size) (a b:Bool):l.getD i a=l.getD i b:=by simp [h]
theorem ED (h:i < l.size):(l.setIfInBounds i true).getD i false=true:=by simp [h]
theorem wild (hw:Gh ops=true) {S:World->Prop} (inv:Array Bool->P_) (hS:∀ l a w,inv l a w->S w)
  (hstep:∀ (l:Array Bool) (i:Nat) (a:Act) (w:World),l.size=ops.size->i ∈ Region.ready .any ops l->inv l a w->wpOp P ops Q i (fun a' w'=>inv (l.setIfInBounds i true) a' w') a w)
  (hend:∀ (l:Array Bool) (a:Act) (w:World),(∀ i,i < ops.size->l.getD i false=true)->inv l a w->Q .normal a w) :
  ∀ (n:Nat) (l:Array Bool) (rem:N_) (a:Act) (w:World),rem.length=n->rem.Nodup->l.size=ops.size->(∀ i,i ∈ rem ↔ i < ops.size/\l.getD i false=false)->inv l a w->wpAnyH P .any ops Q S n l a w
|0,l,rem,a,w,hn,_,hs,hr,h=>by
  obtain rfl:=List.length_eq_zero_iff.1 hn
  have hall:∀ i,i < ops.size->l.getD i false=true:=fun i hi=>by
   by_cases h:l.getD i false=true
   ·exact h
   ·exact absurd ((hr i).2 ⟨hi,by simpa using h⟩) (by simp)
  refine ⟨?_,hend l a w hall h⟩;refine List.eq_nil_iff_forall_not_mem.2 fun i hi=>?_;unfold Region.ready at hi;rw [List.mem_filter] at hi;have h1:=List.mem_range.1 hi.1;have h2:=hall i h1;rw [getD_in (by omega) true false] at hi;rw [h2] at hi;simp at hi
|n+1,l,rem,a,w,hn,hd,hs,hr,h=>by
  refine ⟨fun h0=>?_,fun i hi=>?_⟩
  ·exfalso;cases rem with
  |nil=>cases hn
  |cons k rem =>
    obtain ⟨m,h1,h2,h3⟩:=least (p:=fun i=>i < ops.size/\l.getD i false=false) k ((hr k).1 (List.mem_cons_self ..))
    have hm:m ∈ Region.ready .any ops l:=Yd hw m h1.1 (by rw [getD_in (by omega) true false];exact h1.2) fun j hj=>by
     by_cases hc:l.getD j false=true
     ·exact hc
     ·exact absurd ⟨by omega,by simpa using hc⟩ (h3 j hj)
    rw [h0] at hm;cases hm
  ·have hi':=hi;unfold Region.ready at hi';rw [List.mem_filter] at hi';have h1:=List.mem_range.1 hi'.1
   have h2:l.getD i false=false:=by
    have:=hi'.2;rw [b_t,getD_in (by omega) true false] at this;simpa using this.1
   have hm:i ∈ rem:=(hr i).2 ⟨h1,h2⟩;refine wpOp_mono ?_ (hstep l i a w hs hi h);intro a' w' h';refine ⟨hS _ _ _ h',wild hw inv hS hstep hend n _ (rem.erase i) a' w' (by rw [List.length_erase_of_mem hm];omega) (hd.erase i) (by rw [Array.size_setIfInBounds];exact hs) (fun j=>?_) h'⟩;rw [hd.mem_erase_iff,hr j];by_cases hj:i=j
   ·subst hj;rw [ED (by omega)];simp
   ·rw [getD_set_ne false hj];exact ⟨fun h=>h.2,fun h=>⟨fun e=>hj e.symm,h⟩⟩
theorem I9 (hm:P.follows .mixedOrders=true) (hw:Gh ops=true) (inv:Array Bool->P_)
  (hstep:∀ (l:Array Bool) (i:Nat) (a:Act) (w:World),l.size=ops.size->i ∈ Region.ready .any ops l->inv l a w->wpOp P ops Q i (fun a' w'=>inv (l.setIfInBounds i true) a' w') a w)
  (hend:∀ (l:Array Bool) (a:Act) (w:World),(∀ i,i < ops.size->l.getD i false=true)->inv l a w->Q .normal a w)
  (h:inv (Array.replicate ops.size false) a { w with drawn:=w.drawn+1 }):(Code.region id ops true).wp P Q a w :=
 wp_region_held (S:=fun _=>True) hm (wild hw inv (fun _ _ _ _=>trivial) hstep hend ops.size _ (List.range ops.size) a _ (by simp) List.nodup_range (by simp) (fun i=>by
  rw [List.mem_range]
  refine ⟨fun h=>⟨h,by simp [h]⟩,fun h=>h.1⟩) h)
theorem Ap (hs:l.size=ops.size) (h:i ∈ Region.ready .any ops l) (ho:ops[i]?=some o):l.getD i false=false/\∀ e ∈ o.after.toList,Region.binds .any e=true->l.getD e.on false=true:=by
 obtain ⟨h1,o',h2,h3⟩:=mem_ready.1 h;rw [ho] at h2;cases h2;have hi:i < ops.size:=(Array.getElem?_eq_some_iff.1 ho).1;exact ⟨by rw [getD_in (by omega) false true];exact h1,fun e he hb=>h3 e (by simpa using he) hb⟩
end
open Classical in
noncomputable def Po (p:Nat->Prop):Nat:=if h:∃ n,p n/\∀ j,j < n->¬ p j then h.choose else 0
theorem JJ {p:Nat->Prop} {n:Nat} (hn:p n):∃ n,p n/\∀ j,j < n->¬ p j:=by
 obtain ⟨m,h1,_,h2⟩:=least n hn;exact ⟨m,h1,h2⟩
theorem YV {p:Nat->Prop} {n:Nat} (hn:p n):p (Po p):=by
 unfold Po;rw [dif_pos (JJ hn)];exact (JJ hn).choose_spec.1
theorem Fv {p:Nat->Prop} {n:Nat} (hn:p n):Po p<=n:=by
 have h:¬ n < Po p:=by
  unfold Po;rw [dif_pos (JJ hn)];exact fun hlt=>(JJ hn).choose_spec.2 n hlt hn
 omega
end Go.Proofs.YtkpbhdhkdonghaaGreat
