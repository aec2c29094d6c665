/-
  Part 32 of the proof.
-/
import Derived.Great.BuildSlice
import Derived.Test.YtkpbhdhkdonghaaGreatA31
set_option linter.all false
namespace Go.Proofs.YtkpbhdhkdonghaaGreat
open Go Go.RowKit
variable {h':AH} {r:Uu} {cs:L_} {g k off:Nat} {c x y:Operand} {t:TypeId} {u:Value}
section
variable {P:Program} {ev:Ev} {e:En} {h:AH} {w0:Base} {w:World} {a:Act} {o:Oper}
def RsV (P:Program) (a:Act) (o:Oper) (w:World) (e:En) (v:Value):Prop:=∃ u,(execOp a.eval o).run P w=.ok (.value u) w/\VR e v u
def RsE (P:Program) (a:Act) (o:Oper) (w0:Base) (w:World) (e:En) (v:Value) (h':AH):Prop :=
 ∃ u w' e',e.le e'/\((execOp a.eval o).run P w=.ok (.value u) w'\/((execOp a.eval o).run P w=.ok .skip w'/\u=undef))/\VR e' v u/\HX e' h' w0 w'
def RsC (P:Program) (a:Act) (o:Oper) (w:World) (e:En) (f:FuncId) (args:L_):Prop :=
 ∃ args',(execOp a.eval o).run P w=.ok (.enter f args'.toArray) w/\VRs e args args'
def Rs (P:Program) (a:Act) (o:Oper) (w0:Base) (w:World) (e:En) (_h:AH):Uu->Prop
|.val v=>RsV P a o w e v
|.eff v h'=>RsE P a o w0 w e v h'
|.call f args=>RsC P a o w e f args
def EvR (e:En) (ev:Ev) (a:Act):Prop:=∀ x v,ev x=some v->VR e v (a.eval x)
theorem C9 {x:OV} (hx:rv x=some r):∃ v,x=some v/\r=.val v:=by
 cases x with
|none=>cases hx
|some v=>cases hx;exact ⟨v,rfl,rfl⟩
theorem WT {v:Value} {x:Option AH} (hx:re v x=some r):∃ h',x=some h'/\r=.eff v h':=by
 cases x with
|none=>cases hx
|some h'=>cases hx;exact ⟨h',rfl,rfl⟩
theorem A1S {v:Value} (ho:o.op=.move x) (hev:EvR e ev a) (hx:ev x=some v):RsV P a o w e v :=
 ⟨a.eval x,by unfold execOp;simp only [ho];rfl,hev x v hx⟩
theorem rW {v:Value} (ho:o.op=.assign x) (hev:EvR e ev a) (hx:ev x=some v):RsV P a o w e v :=
 ⟨a.eval x,by unfold execOp;simp only [ho];rfl,hev x v hx⟩
theorem A1R {v:Value} (ho:o.op=.pick c x y) (hev:EvR e ev a) (hx:tN (ev c) (ev x) (ev y)=some v):RsV P a o w e v:=by
 unfold tN at hx;split at hx
 ·rename_i hc;have h1:=hev _ _ hc;generalize hu:a.eval c=u at h1;cases h1;exact ⟨a.eval x,by unfold execOp;simp [ho,hu,asBool],hev _ _ hx⟩
 ·rename_i hc;have h1:=hev _ _ hc;generalize hu:a.eval c=u at h1;cases h1;exact ⟨a.eval y,by unfold execOp;simp [ho,hu,asBool],hev _ _ hx⟩
 ·cases hx
theorem s_nil {v:Value} (ho:o.op=.nilCheck x) (hev:EvR e ev a) (hx:A27 (ev x)=some v):RsV P a o w e v:=by
 unfold A27 at hx;split at hx
 all_goals first|(cases hx;done)|skip
 all_goals (rename_i hc;cases hx;have h1:=hev _ _ hc;refine ⟨a.eval x,?_,h1⟩;generalize hu:a.eval x=u at h1;cases h1<;>(unfold execOp;simp [ho,hu]))
theorem Jk (w:World) (o:Obj):w.grownBy (w.alloc o) none:=⟨rfl,rfl,rfl,by simp,fun k hk _=>heap_alloc_old w o hk⟩
theorem A8T {c:Nat} {us:L_} (hh:w.heap[g]?=some (.cells us.toArray t)) (hv:VRs e cs us):OR e w g (c,0) (.row cs 0):=by
 have hl:=hv.length;refine ⟨us.toArray,t,hh,by simp [hl],?_,fun h=>absurd rfl h,fun _=>⟨rfl,by simp [hl]⟩⟩;rw [show (us.toArray.toList.drop (c,0).2).take cs.length=us by rw [<- hl];simp];exact hv
theorem iR (hr:HX e h w0 w) {us:L_} (hnew:h.new (.row cs 0)=some (k,h')) (hv:VRs e cs us):k=h.n/\e.le (e.add h.n w.heap.size (0,0))/\HX (e.add h.n w.heap.size (0,0)) h' w0 (w.alloc (.cells us.toArray t)) :=
 hr.add hnew (Jk w _) (Nat.le_refl _) (A8T (heap_alloc_new w _) (hv.mono (En.JK hr.fresh)))
theorem Uz (v:Value):v.cells=v.cells.toList.toArray:=by simp
theorem A1f (hr:HX e h w0 w) (hn:tV h cs=some r) (hv:VRs e cs u.cells.toList)
  (hrun:(execOp a.eval o).run P w=.ok (.value (.pointer (some ⟨w.heap.size,0,none⟩))) (w.alloc (.cells u.cells t))):Rs P a o w0 w e h r:=by
 unfold tV at hn;split at hn
 ·rename_i k h' hnew;cases hn;obtain ⟨rfl,h1,h2⟩:=iR (t:=t) hr hnew hv;exact ⟨_,_,_,h1,.inl hrun,.ptr En.EG,by rw [Uz u];exact h2⟩
 ·cases hn
theorem A02 (ho:o.op=.alloc t) (hr:HX e h w0 w) (hx:Sm P t h=some r):Rs P a o w0 w e h r:=by
 unfold Sm at hx;split at hx
 ·rename_i z hz;obtain ⟨v,h1,h2⟩:=V5 hz w;refine A1f (u:=v) (t:=t) hr hx (by rw [h2];exact XO hz) ?_;unfold execOp;simp only [ho,Instr.alloc,newVar,newRow,s_b,s_p,h1,r_o];rfl
 ·cases hx
theorem s_box (ho:o.op=.box t x) (hev:EvR e ev a) (hr:HX e h w0 w) (hx:A2a (ev x) h=some r):Rs P a o w0 w e h r:=by
 unfold A2a at hx;split at hx
 ·rename_i v hv;refine A1f (u:=a.eval x) (t:=t) hr hx (hev _ _ hv).cells ?_;unfold execOp;simp only [ho,Instr.box,newVar,newRow,s_b,s_p];rfl
 ·cases hx
theorem A1T {v:Value} (ho:o.op=.load t x) (hev:EvR e ev a) (hr:HX e h w0 w) (hx:ZR P t (ev x) h=some v):RsV P a o w e v:=by
 obtain ⟨k,off,hk,hap⟩:=Ub hr hx;have h1:=hev _ _ hk;generalize hu:a.eval x=u at h1;cases h1;rename_i g c hg;obtain ⟨cs,hc,hx⟩:=hap g c hg;obtain ⟨ds,h1,h2,h3⟩:=hr.rowIs hg hc;obtain ⟨u,h4,h5⟩:=U9 hx h1 h2 h3;refine ⟨u,?_,h5⟩;unfold execOp;simp only [ho,hu,Instr.loadAt,Instr.sureAddr,s_b,s_p,r_o,h4]
theorem qU {α:Type} (ds us:List α) (off n:Nat) (h:off+us.length<=n) (h2:n<=ds.length):(ds.take off++us++ds.drop (off+us.length)).take n=(ds.take n).take off++us++(ds.take n).drop (off+us.length):=by
 have e1:(ds.take n).take off=ds.take off:=by rw [List.take_take,Nat.min_eq_left (by omega)]
 rw [e1,List.drop_take,List.take_append];have hl:(ds.take off++us).length=off+us.length:=by simp;omega
 rw [hl,List.take_of_length_le (by omega)]
theorem Zv {α:Type} (ds us:List α) (off d n:Nat) (h:off+d<=ds.length):(ds.take (off+d)++us++ds.drop (off+d+n)).drop d=(ds.drop d).take off++us++(ds.drop d).drop (off+n):=by
 have h1:(ds.take (off+d)).length=off+d:=by simp;omega
 rw [l_a,List.drop_append_of_le_length (by omega),List.drop_take,List.drop_drop,Nat.add_sub_cancel,show d+(off+n)=off+d+n by omega,l_a]
theorem Xe (hr:HX e h w0 w) {c:Nat × Nat} {vs us:L_} (hg:e k=some (g,c)) (hl:h.lay k off vs=some h') (hv:VRs e vs us) (h1:vs.all cell1=true):∃ w',(storeCells ⟨g,off+c.2,none⟩ us).run P w=.ok () w'/\HX e h' w0 w':=by
 unfold AH.lay at hl;split at hl
 ·rename_i cs es hc;split at hl
  ·rename_i cs' hcs;cases hl;rw [YQ] at hcs;obtain ⟨e1,e2⟩:=I7 _ _ _ _ hcs;obtain ⟨hb,ds,t,a1,hds,a2,a3,a4⟩:=hr.at hg hc;have hlen:=hv.length;have hst:=run_storeCells_at P g (off+c.2) t us 0 ds w a1 (by omega) (hv.cells h1);simp only [Nat.add_zero] at hst;have hcl:cs'.length=cs.length:=by rw [e1];simp;omega
   have hh:ds.toList.length=ds.size:=Array.length_toList;refine ⟨_,hst,hr.upd hg hc (EC w g _) ⟨_,t,setRow_heap w g ds _ t _ a1,?_,?_,?_,fun hes=>?_⟩⟩
   ·rw [hcl];simp;omega
   ·rw [hcl,e1,List.toList_toArray,Zv _ _ _ _ _ (by omega),qU _ _ _ _ (by omega) (by simp;omega),hlen];exact ((a2.take off).append hv).append (a2.drop _)
   ·intro hes;obtain ⟨b1,b2⟩:=a3 hes;refine ⟨by rw [hcl];exact b1,?_⟩;simp;omega
   ·obtain ⟨b1,b2⟩:=a4 hes;refine ⟨b1,?_⟩;rw [hcl];simp;omega
  ·cases hl
 ·cases hl
theorem zT (ho:o.op=.store t x y) (hev:EvR e ev a) (hr:HX e h w0 w) (hx:fO P t (ev x) (ev y) h=some h'):RsE P a o w0 w e undef h':=by
 have key:∀ {k off:Nat} {v:Value} {n:Nat},ev x=some (.pointer (some ⟨k,off,none⟩))->ev y=some v->sizeT P t=some n->v.cells.toList.length=n->v.cells.toList.all cell1=true->h.lay k off v.cells.toList=some h'->RsE P a o w0 w e undef h':=by
  intro k off v n hk hy hs hl h1 hlay;have hp:=hev _ _ hk;generalize hu:a.eval x=u at hp;cases hp;rename_i g c hg;have hv:=(hev _ _ hy).cells;obtain ⟨w',h2,h3⟩:=Xe (P:=P) hr hg hlay hv h1;refine ⟨undef,w',e,En.le.refl e,.inr ⟨?_,rfl⟩,.undef,h3⟩;have hn:(a.eval y).cells.size=n:=by rw [<- Array.length_toList,hv.length,hl]
  unfold execOp;simp [ho,hu,Instr.storeAt,Instr.sureAddr,storeVar,A7j hs,hn,h2]
 unfold fO at hx;split at hx
 ·rename_i k off vs hk hy;split at hx
  ·rename_i n hs;cases hb:QM n vs.toList with
  |false=>rw [hb] at hx;cases hx
  |true =>
    rw [hb] at hx;obtain ⟨q1,q2⟩:=O1 _ _ hb;exact key hk hy hs q1 q2 hx
  ·cases hx
 ·rename_i k off v hna hk hy;split at hx
  ·rename_i n hs;cases hb:Nat.beq 1 n with
  |false=>rw [hb] at hx;cases hx
  |true =>
    rw [hb] at hx;cases hc:cell1 v with
   |false=>rw [Ov,hc] at hx;cases hx
   |true =>
     rw [Ov,hc] at hx;have hcs:=ZH hc;have hcl:v.cells.toList=[v]:=by rw [hcs]
     exact key hk hy hs (by rw [hcl];exact n_q hb) (by rw [hcl];simp [hc]) (by rw [hcl];exact hx)
  ·cases hx
 ·cases hx
end
variable {r:Uu} {z:A_} {cs:L_} {len m n s:Nat} {et t:TypeId}
section
variable {P:Program} {ev:Ev} {e:En} {h:AH} {w0:Base} {w:World} {a:Act} {o:Oper}
theorem VD (off:Nat):∀ (us:L_) (i:Nat) (cs:A_),off+i+us.length<=cs.size->((us.zipIdx i).foldl (fun cs (p:Value × Nat)=>cs.setIfInBounds (off+p.2) p.1) cs).toList=cs.toList.take (off+i)++us++cs.toList.drop (off+i+us.length)
|[],i,cs,h=>by simp
|u::us,i,cs,h=>by
  simp only [List.length_cons] at h;rw [List.zipIdx_cons,List.foldl_cons,VD off us (i+1) _ (by simp;omega)];apply List.ext_getElem?;intro j;simp only [Array.toList_setIfInBounds,List.length_cons];have hs:cs.toList.length=cs.size:=Array.length_toList;by_cases h1:j < off+i
  ·rw [l_a,l_a,List.getElem?_append_left (by simp;omega),List.getElem?_append_left (by simp;omega),List.getElem?_take_of_lt (by omega),List.getElem?_take_of_lt h1,List.getElem?_set_ne (by omega)]
  ·by_cases h2:j=off+i
   ·subst h2;rw [l_a,l_a,List.getElem?_append_left (by simp;omega),List.getElem?_append_right (by simp;omega),List.getElem?_take_of_lt (by omega),List.getElem?_set_self (by omega)];rw [List.length_take,show min (off+i) cs.toList.length=off+i by omega,Nat.sub_self];simp
   ·by_cases h3:j < off+i+1+us.length
    ·rw [List.getElem?_append_left (by simp;omega),List.getElem?_append_right (by simp;omega),List.getElem?_append_left (by simp;omega),List.getElem?_append_right (by simp;omega)];simp only [List.length_take,List.length_set];rw [show min (off+(i+1)) cs.toList.length=off+(i+1) by omega,show min (off+i) cs.toList.length=off+i by omega,show j - (off+i)=(j - (off+(i+1)))+1 by omega,List.getElem?_cons_succ]
    ·rw [List.getElem?_append_right (by simp;omega),List.getElem?_append_right (by simp;omega)];simp only [List.length_append,List.length_take,List.length_set,List.length_cons,List.getElem?_drop];rw [List.getElem?_set_ne (by omega)]
     congr 1
     omega
theorem L8 (place:Nat->Option (Nat × Nat)):∀ (l l':List (Nat × Value)) (cs cs' out:L_),l.map (·.1)=l'.map (·.1)->VRs e (l.map (·.2)) (l'.map (·.2))->VRs e cs cs'->Ue place l cs=some out->∃ out',Instr.fill place cs'.toArray l'=some out'.toArray/\VRs e out out'
|[],[],cs,cs',out,_,_,hc,ho=>by cases ho;exact ⟨cs',rfl,hc⟩
|[],_::_,_,_,_,h,_,_,_=>by cases h
|_::_,[],_,_,_,h,_,_,_=>by cases h
|(i,v)::l,(j,u)::l',cs,cs',out,h,hv,hc,ho=>by
  simp only [List.map_cons,List.cons.injEq] at h;obtain ⟨rfl,ht⟩:=h;simp only [List.map_cons] at hv;cases hv;rename_i h1 h2;unfold Ue at ho;unfold Instr.fill;cases hp:place i with
 |none=>rw [hp] at ho;cases ho
 |some q =>
   obtain ⟨off,size⟩:=q;rw [hp] at ho;simp only at ho ⊢;cases hb:Nat.beq v.cells.size size with
  |false=>rw [hb] at ho;cases ho
  |true =>
    rw [hb] at ho;have hsz:=n_q hb;simp only [cond_true] at ho;split at ho
    ·rename_i cs2 hl;obtain ⟨e1,e2⟩:=I7 _ _ _ _ hl;have hvc:=h1.cells;have hlen:=hvc.length;have hlc:=hc.length;have hus:u.cells.size=size:=by rw [<- Array.length_toList,hlen,Array.length_toList,hsz]
     have e3:off+size<=cs.length:=by rw [Array.length_toList,hsz] at e2;exact e2
     have hfold:=VD off u.cells.toList 0 cs'.toArray (by simp [hus];omega);simp only [Nat.add_zero] at hfold
     have hc2:VRs e cs2 (cs'.take off++u.cells.toList++cs'.drop (off+u.cells.toList.length)):=by
      rw [e1,hlen];exact ((hc.take off).append hvc).append (hc.drop _)
     obtain ⟨out',h3,h4⟩:=L8 place l l' cs2 _ out ht h2 hc2 ho;refine ⟨out',?_,h4⟩;rw [if_neg (by simp [hus];omega),<- h3]
     congr 1
     apply Array.ext';rw [<- hfold,<- Array.foldl_toList];simp
    ·cases ho
theorem KG (hev:EvR e ev a):∀ (ps:List (Nat × Operand)) (l:List (Nat × Value)),parts ev ps=some l->l.map (·.1)=(ps.map fun p=>(p.1,a.eval p.2)).map (·.1)/\VRs e (l.map (·.2)) ((ps.map fun p=>(p.1,a.eval p.2)).map (·.2))
|[],l,h=>by cases h;exact ⟨rfl,.nil⟩
|(i,x)::ps,l,h=>by
  unfold parts at h;split at h
  ·rename_i v m hv hm;cases h;obtain ⟨h1,h2⟩:=KG hev ps m hm;exact ⟨by simp [h1],.cons (hev _ _ hv) h2⟩
  ·cases h
theorem jB (ev:Ev):∀ l:List Operand,A2t ev l=evs ev l
|[]=>rfl
|x::l=>by
  show Option.rec (motive:=fun _=>Option L_) none (fun v=>Option.rec (motive:=fun _=>Option L_) none (fun m=>some (v::m)) (A2t ev l)) (ev x)=evs ev (x::l);have h1:evs ev (x::l)=(match ev x,evs ev l with|some v,some m=>some (v::m)|_,_=>none):=rfl;rw [jB ev l,h1];cases ev x<;>cases evs ev l<;>rfl
theorem LC (hev:EvR e ev a):∀ (l:List Operand) (vs:L_),evs ev l=some vs->VRs e vs (l.map a.eval)
|[],vs,h=>by cases h;exact .nil
|x::l,vs,h=>by
  unfold evs at h;split at h
  ·rename_i v m hv hm;cases h;exact .cons (hev _ _ hv) (LC hev l m hm)
  ·cases h
theorem EF (hx:MP P t=some (et,s)):P.underlying t=some (.slice et)/\sizeT P et=some s:=by
 unfold MP at hx;split at hx
 ·rename_i e2 hu;split at hx
  ·rename_i n hn;cases hx;exact ⟨hu,hn⟩
  ·cases hx
 ·cases hx
theorem JO (hx:TJ P t=some (n,et,s)):P.underlying t=some (.array n et)/\sizeT P et=some s:=by
 unfold TJ at hx;split at hx
 ·rename_i n2 e2 hu;split at hx
  ·rename_i m hm;cases hx;exact ⟨hu,hm⟩
  ·cases hx
 ·cases hx
theorem Ii (h:sizeT P t=some n):∃ i,P.info? t=some i/\i.size=n:=by
 unfold sizeT at h;cases hi:P.info? t with
|none=>rw [hi] at h;cases h
|some i=>rw [hi] at h;simp at h;exact ⟨i,rfl,h⟩
theorem A01 {ps:Array (Nat × Operand)} {v:Value} (ho:o.op=.build t ps) (hev:EvR e ev a) (hx:dG P ev t ps.toList=some v):RsV P a o w e v:=by
 unfold dG at hx;split at hx
 ·rename_i l z hl hz;obtain ⟨h1,h2⟩:=KG hev _ _ hl;obtain ⟨i,zv,z1,z2,z3,z4,z5⟩:=F9 hz;have hzz:VRs e z zv.cells.toList:=by rw [z3];exact VRs.self z4
  have hpr:(ps.map fun (i,x)=>(i,a.eval x)).toList=ps.toList.map fun p=>(p.1,a.eval p.2):=by simp
  have fin:∀ {cs:L_} {place:Nat->Option (Nat × Nat)},Ue place l z=some cs->(∀ out,Instr.fill place zv.cells (ps.map fun (i,x)=>(i,a.eval x)).toList=some out->P.built t (ps.map fun (i,x)=>(i,a.eval x)).toList=some out)->RsV P a o w e (.agg cs.toArray):=by
   intro cs place hf hb;obtain ⟨out,h3,h4⟩:=L8 place l _ z _ cs h1 h2 hzz hf;refine ⟨.agg out.toArray,?_,.agg h4⟩;have h5:=hb out.toArray (by rw [hpr];simpa using h3);unfold execOp;simp only [ho,s_b,run_build w t _ _ h5,r_o,s_p]
  cases he:TJ P t with
 |some q =>
   obtain ⟨n,et,s⟩:=q;rw [he] at hx;simp only at hx;split at hx
   ·rename_i cs hcs;cases hx;obtain ⟨e1,e2⟩:=JO he;obtain ⟨ie,e3,e4⟩:=Ii e2;refine fin hcs fun out hout=>?_;unfold Program.built;simp only [z1,e1,z2,e3,e4];exact hout
   ·cases hx
 |none =>
   rw [he] at hx;simp only at hx;cases hpl:WX P t with
  |none=>rw [hpl] at hx;cases hx
  |some pl =>
    rw [hpl] at hx;simp only at hx;split at hx
    ·rename_i cs hcs;cases hx;unfold WX at hpl;split at hpl
     ·rename_i fs hu;refine fin hcs fun out hout=>?_;unfold Program.built;simp only [z1,hu,z2,hpl];rw [<- hout]
      congr 1
      funext j
      simp [sQ,DL]
     ·cases hpl
    ·cases hx
 ·cases hx
theorem Dv {z:L_}:∀ n,(BK z n).length=n * z.length
|0=>by simp [BK]
|n+1=>by simp [BK,Dv n,Nat.succ_mul];omega
theorem U6 {z:L_}:∀ (n i:Nat),i < n * z.length->(BK z n)[i]?=z[i % z.length]?
|0,i,h=>by simp at h
|n+1,i,h=>by
  unfold BK;rw [Nat.succ_mul] at h;by_cases hi:i < z.length
  ·rw [List.getElem?_append_left hi,Nat.mod_eq_of_lt hi]
  ·rw [List.getElem?_append_right (by omega),U6 n _ (by omega),Nat.mod_eq_sub_mod (a:=i) (by omega)]
theorem G5 (n:Nat):(Array.range (n * z.size)).map (z[· % z.size]!)=(BK z.toList n).toArray:=by
 apply Array.ext';apply List.ext_getElem?;intro i;by_cases hi:i < n * z.size
 ·rw [List.toList_toArray,U6 n i (by simpa using hi)]
  have hpos:0 < z.size:=by
   rcases Nat.eq_zero_or_pos z.size with h0|h0
   ·rw [h0] at hi;simp at hi
   ·exact h0
  have hm:i % z.size < z.size:=Nat.mod_lt _ hpos;simp [hi,hm]
 ·rw [List.getElem?_eq_none (by simp;omega),List.getElem?_eq_none (by simp [Dv];omega)]
theorem Nk {us:L_} (hr:HX e h w0 w) (hn:RZ h cs n m=some r) (hnm:n<=m) (hm:m < HALF) (hv:VRs e cs us)
  (hrun:(execOp a.eval o).run P w=.ok (.value (.slice (some ⟨w.heap.size,0,none⟩) n m)) (w.alloc (.cells us.toArray t))):Rs P a o w0 w e h r:=by
 unfold RZ at hn;split at hn
 ·rename_i k h' hnew;cases hn;obtain ⟨rfl,h1,h2⟩:=iR (t:=t) hr hnew hv;have hc:capOf 0 m=m:=by unfold capOf;rw [if_pos hm]
  refine ⟨_,_,_,h1,.inl hrun,?_,h2⟩;have h3:=VR.slice (e:=e.add h.n w.heap.size (0,0)) (off:=0) (n:=n) (c:=m) En.EG (by rw [hc];exact hnm) (fun hh=>absurd hh (by omega));rwa [hc] at h3
 ·cases hn
theorem rV {ps:Array (Nat × Operand)} (ho:o.op=.buildSlice t len ps) (hev:EvR e ev a) (hr:HX e h w0 w) (hx:X6 P ev t len ps.toList h=some r):Rs P a o w0 w e h r:=by
 unfold X6 at hx;split at hx
 ·rename_i l et s hl hes;obtain ⟨h1,h2⟩:=KG hev _ _ hl;obtain ⟨u1,u2⟩:=EF hes;split at hx
  ·rename_i z hz;obtain ⟨i,zv,z1,z2,z3,z4,z5⟩:=F9 hz;split at hx
   ·rename_i cs hcs;obtain ⟨ie,e3,e4⟩:=Ii u2;rw [z1] at e3;cases e3;have hzsz:zv.cells.size=s:=by rw [<- Array.length_toList,z3,z5,e4]
    cases hb:(Nat.ble (Nat.mul len s) 16000000 && not (Nat.beq (Nat.mul len s) 0)) with
   |false =>
     rw [hb] at hx;simp only [cond_false] at hx;split at hx
     ·have hpr:(ps.map fun (i,x)=>(i,a.eval x)).toList=ps.toList.map fun p=>(p.1,a.eval p.2):=by simp
      have hpn:(ps.map fun (i,x)=>(i,a.eval x)).toList=[]:=by
       rw [hpr];cases hq:(ps.toList.map fun p=>(p.1,a.eval p.2)) with
      |nil=>rfl
      |cons _ _=>rw [hq] at h1;cases h1
      refine Nk (t:=et) (us:=[]) hr hx (Nat.le_refl _) (by unfold HALF;omega) .nil ?_;unfold execOp
      have hbs:(Instr.buildSlice t 0 (ps.map fun (i,x)=>(i,a.eval x))).run P w=.ok (.slice (some ⟨w.heap.size,0,none⟩) 0 0) (w.alloc (.cells #[] et)):=by
       unfold Instr.buildSlice;rw [hpn];simp [r_u u1,sizeOf,typeInfo,z1,newRow,Instr.fill];rw [show Array.range 0=#[] from rfl,Array.map_empty]
      simp only [ho,s_b,hbs,r_o,s_p]
     ·cases hx
   |true =>
     rw [hb] at hx;rw [b_t] at hb;have b1:=n_l hb.1
     have b2:len * s ≠ 0:=fun e=>by
      have h2:=hb.2;rw [show Nat.mul len s=0 from e] at h2;cases h2
     obtain ⟨out,h3,h4⟩:=L8 (bT s) l _ (BK z len) _ cs h1 h2 (Js (VRs.self z4) len) hcs;have hpr:(ps.map fun (i,x)=>(i,a.eval x)).toList=ps.toList.map fun p=>(p.1,a.eval p.2):=by simp
     have hlen:len<=16000000:=by
      rcases Nat.eq_zero_or_pos s with hs|hs
      ·subst hs;simp at b2
      ·exact Nat.le_trans (Nat.le_mul_of_pos_right len hs) b1
     refine Nk (t:=et) hr hx (Nat.le_refl _) (by unfold HALF;omega) h4 ?_
     have hbs:=run_buildSlice (P:=P) w t et len (ps.map fun (i,x)=>(i,a.eval x)) out.toArray i zv u1 z1 z2 (by rw [e4];show ¬ len * s > 16777216;have:len * s<=16000000:=b1;omega) (by rw [e4];exact b2) (by
      rw [e4,hpr];have:=G5 (z:=zv.cells) len;rw [hzsz] at this;rw [hzsz,this,z3]
      exact h3)
     unfold execOp;simp only [ho,s_b,hbs,r_o,s_p]
   ·cases hx
  ·cases hx
 ·cases hx
end
variable {r:Uu} {f g k n off s:Nat} {c i l x:Operand} {t:TypeId}
section
variable {P:Program} {ev:Ev} {e:En} {h:AH} {w0:Base} {w:World} {a:Act} {o:Oper}
theorem MI {d:Nat} (hx:Oc P s f=some (d,t,n)):∃ fs x,P.underlying s=some (.struct fs)/\fs[f]?=some x/\x.offset=d/\x.type=t/\sizeT P t=some n:=by
 unfold Oc at hx;split at hx
 ·rename_i fs hu;split at hx
  ·rename_i x hf;split at hx
   ·rename_i m hm;cases hx;exact ⟨fs,x,hu,hf,rfl,rfl,hm⟩
   ·cases hx
  ·cases hx
 ·cases hx
theorem Y6 {v:Value} (ho:o.op=.fieldAddr s x f) (hev:EvR e ev a) (hx:Nu P s (ev x) f=some v):RsV P a o w e v:=by
 unfold Nu at hx;split at hx
 ·rename_i k off d t n hk hf;obtain ⟨fs,fd,h1,h2,h3,h4,h5⟩:=MI hf;cases hb:Nat.beq n 0 with
 |true=>rw [hb] at hx;cases hx
 |false =>
   rw [hb] at hx;cases hx;have hp:=hev _ _ hk;generalize hu:a.eval x=u at hp;cases hp;rename_i g c hg;have hn:n ≠ 0:=fun e=>by subst e;cases hb
   refine ⟨.pointer (some ⟨g,off+c.2+d,none⟩),?_,by have:=VR.ptr (off:=off+d) hg;rwa [Nat.add_right_comm] at this⟩;unfold execOp;simp [ho,hu,Instr.fieldAt,r_u h1,h2,Instr.sureAddr,fieldPlace,h4,A7j h5,hn,h3,Addr.add_lit]
 ·cases hx
theorem zY {v:Value} (ho:o.op=.field s x f) (hev:EvR e ev a) (hx:dB P s (ev x) f=some v):RsV P a o w e v:=by
 unfold dB at hx;split at hx
 ·rename_i cs d t n hk hf;obtain ⟨fs,fd,h1,h2,h3,h4,h5⟩:=MI hf;have hp:=hev _ _ hk;generalize hu:a.eval x=u at hp;cases hp;rename_i cs cs' hc;obtain ⟨u,h6,h7⟩:=JV hx (by simpa using hc) w;refine ⟨u,?_,h7⟩;unfold execOp;simp [ho,hu,Instr.field,r_u h1,h2,asAgg,h4,h3,h6]
 ·cases hx
theorem bF {j:Nat} {c:Nat × Nat} {v:Value} (hg:e k=some (g,c)) (hx:iP k off j s n=some v):v=.pointer (some ⟨k,off+j * s,none⟩)/\j < n/\VR e v (.pointer (some ⟨g,off+c.2+j * s,none⟩)):=by
 unfold iP at hx;cases hb:Nat.blt j n with
|false=>rw [hb] at hx;cases hx
|true =>
  rw [hb] at hx;cases hx;exact ⟨rfl,n_l hb,by have:=VR.ptr (off:=off+j * s) hg;rwa [Nat.add_right_comm] at this⟩
theorem Y5 {v:Value} (ho:o.op=.indexAddr t x i) (hev:EvR e ev a) (hx:Ns P t (ev x) (ev i)=some v):RsV P a o w e v:=by
 unfold Ns at hx;split at hx
 ·rename_i k off q j hk hj;split at hx
  ·rename_i n et s he;obtain ⟨h1,h2⟩:=JO he;have hp:=hev _ _ hk;have hq:=hev _ _ hj;generalize hu:a.eval x=u at hp;generalize hv:a.eval i=y at hq;cases hp;cases hq;rename_i g c hg;obtain ⟨rfl,h3,h4⟩:=bF hg hx;refine ⟨_,?_,h4⟩;unfold execOp;simp [ho,hu,hv,Instr.indexAt,asIntOf,r_u h1,Instr.sureAddr,h3,A7j h2,Addr.add_lit]
  ·cases hx
 ·rename_i k off n c q j hk hj;split at hx
  ·rename_i et s he;obtain ⟨h1,h2⟩:=EF he;have hp:=hev _ _ hk;have hq:=hev _ _ hj;generalize hu:a.eval x=u at hp;generalize hv:a.eval i=y at hq;cases hq;cases hp with
  |slice hg hn hc =>
    obtain ⟨rfl,h3,h4⟩:=bF hg hx;refine ⟨_,?_,h4⟩;unfold execOp;simp [ho,hu,hv,Instr.indexAt,asIntOf,r_u h1,h3,A7j h2,Addr.add_lit]
  |sliceE hg hc hc2 =>
    obtain ⟨_,h3,_⟩:=bF hg hx;omega
  ·cases hx
 ·cases hx
theorem zW {v:Value} (ho:o.op=.index t x i) (hev:EvR e ev a) (hx:A7K P t (ev x) (ev i)=some v):RsV P a o w e v:=by
 unfold A7K at hx;split at hx
 ·rename_i b q j hk hj;cases hs:Py P t with
 |false=>rw [hs] at hx;cases hx
 |true =>
   rw [hs] at hx;simp only [cond_true] at hx;split at hx
   ·rename_i y hy;cases hx;rw [DL] at hy;unfold Py at hs;split at hs
    ·rename_i hu2;have hp:=hev _ _ hk;have hq:=hev _ _ hj;generalize hu:a.eval x=u at hp;generalize hv:a.eval i=z at hq;cases hq;cases hp;have hj2:=(List.getElem?_eq_some_iff.1 hy).1;have hj3:j < b.size:=by simpa using hj2
     have hy2:b[j]?=some y:=by
      rw [getElem?_pos b j hj3];have:=(List.getElem?_eq_some_iff.1 hy).2;rw [Option.some.injEq,<- this];rfl
     refine ⟨.int .u8 (.ofNat y.toNat),?_,.int _ _⟩;unfold execOp;simp [ho,hu,hv,Instr.index,asIntOf,r_u hu2,hy2]
    ·cases hs
   ·cases hx
 ·rename_i cs q j hk hj;split at hx
  ·rename_i n et s he;obtain ⟨h1,h2⟩:=JO he;cases hb:Nat.blt j n with
  |false=>rw [hb] at hx;cases hx
  |true =>
    rw [hb] at hx;have hjn:j < n:=n_l hb;have hp:=hev _ _ hk;have hq:=hev _ _ hj;generalize hu:a.eval x=u at hp;generalize hv:a.eval i=y at hq;cases hq;cases hp;rename_i cs cs' hc;obtain ⟨u,h6,h7⟩:=JV hx (by simpa using hc) w;refine ⟨u,?_,h7⟩;unfold execOp;have h6':(part et cs'.toArray (j * s)).run P w=.ok u w:=h6;simp [ho,hu,hv,Instr.index,asIntOf,r_u h1,hjn,A7j h2,h6']
  ·cases hx
 ·cases hx
theorem lu {i:Nat} {v:Value} (ho:o.op=.extract x i) (hev:EvR e ev a) (hx:Si (ev x) i=some v):RsV P a o w e v:=by
 unfold Si at hx;split at hx
 ·rename_i vs hk;rw [DL] at hx;have hp:=hev _ _ hk;generalize hu:a.eval x=u at hp;cases hp;rename_i cs cs' hc;obtain ⟨u,h1,h2⟩:=hc.get (by simpa using hx);refine ⟨u,?_,h2⟩;unfold execOp;simp [ho,hu,Instr.extract,h1]
 ·cases hx
theorem A1U {fn:Fn} {f c:Array Operand} {v:Value} (ho:o.op=.makeFunc fn f c) (hev:EvR e ev a) (hx:ug ev fn f.toList c.toList=some v):RsV P a o w e v:=by
 unfold ug at hx;split at hx
 ·rename_i u y hu hy;cases hx;refine ⟨.func fn (f.map a.eval) (c.map a.eval),?_,?_⟩
  ·unfold execOp;simp only [ho,Instr.makeFunc,s_b,s_p];rfl
  ·have h1:=LC hev _ _ hu;have h2:=LC hev _ _ hy;rw [show f.map a.eval=(f.toList.map a.eval).toArray from Array.ext' (by simp),show c.map a.eval=(c.toList.map a.eval).toArray from Array.ext' (by simp)];exact VR.func fn h1 h2
 ·cases hx
theorem zV (ho:o.op=.makeSlice t l c) (hev:EvR e ev a) (hr:HX e h w0 w) (hx:dh P t (ev l) (ev c) h=some r):Rs P a o w0 w e h r:=by
 unfold dh at hx;split at hx
 ·rename_i q n q2 m et s hl hc hes;obtain ⟨u1,u2⟩:=EF hes;split at hx
  ·rename_i z hz;obtain ⟨i,zv,z1,z2,z3,z4,z5⟩:=F9 hz;cases hb:(Nat.ble n m && Nat.ble (Nat.mul m s) 1000000 && Nat.ble m 1000000 && LJ P et) with
  |false=>rw [hb] at hx;cases hx
  |true =>
    rw [hb] at hx;simp only [b_t] at hb;obtain ⟨⟨⟨b1,b2⟩,b3⟩,b4⟩:=hb;have b1:=n_l b1;have b3:=n_l b3;unfold LJ at b4;rw [z1] at b4;simp only [b_t] at b4;have b5:i.bytes<=10000:=n_l b4.1;have hp:=hev _ _ hl;have hq:=hev _ _ hc;generalize hu:a.eval l=u at hp;generalize hv:a.eval c=y at hq;cases hp;cases hq;have hbm:i.bytes * m<=10000 * 1000000:=Nat.mul_le_mul b5 b3;have hrun:=run_make (P:=P) w t et i zv u1 z1 z2 q q2 (n:Int) (m:Int) (by omega) (by omega) (by rw [<- Int.natCast_mul];omega) (by omega);simp only [Int.toNat_natCast] at hrun;refine Nk (t:=et) (us:=BK z m) hr hx b1 (by unfold HALF;omega) (Js (VRs.self z4) m) ?_
    have hz2:madeCells zv.cells (m * i.size)=(BK z m).toArray:=by
     have h9:=G5 (z:=zv.cells) m;rw [show i.size=zv.cells.size by rw [<- Array.length_toList,z3,z5]];unfold madeCells;rw [h9,z3]
    unfold execOp;simp only [ho,hu,hv,s_b];rw [show (Instr.makeSlice t (.int q (Int.ofNat n)) (.int q2 (Int.ofNat m))).run P w=_ from hrun];simp only [r_o,s_p,hz2]
  ·cases hx
 ·cases hx
end
variable {c cap g k l len m n off s size:Nat} {x:Operand} {ad:Option Addr} {hi lo:Option Operand} {et t:TypeId} {u:Value}
section
variable {P:Program} {ev:Ev} {e:En} {h:AH} {w0:Base} {w:World} {a:Act} {o:Oper}
theorem NU (hu:P.underlying t=some (.slice et)) (hs:sizeT P et=some s) {h:Nat} {lo hi mx:Option Value}
    (hlo:(lo=none/\l=0)\/∃ q,lo=some (.int q l)) (hhi:(hi=none/\h=n/\mx=none)\/∃ q,hi=some (.int q h)) (hmx:(mx=none/\m=c)\/∃ q,mx=some (.int q m)) (h1:l<=h) (h2:h<=m) (h3:m<=c) :
    (Instr.sliceAt t (.slice ad n c) lo hi mx).run P w=.ok (.slice (if m=l then ad else ad.map (·.add (l * s))) (h - l) (m - l)) w:=by
  have hl0:(0:Int)<=l:=by omega
  have hh0:(0:Int)<=h:=by omega
  have hm0:(0:Int)<=m:=by omega
  unfold Instr.sliceAt;rw [s_b,r_u hu];simp only [r_o];unfold Instr.slice;rw [s_b,r_u hu];simp only [r_o]
  rcases hlo with ⟨rfl,rfl⟩|⟨q1,rfl⟩<;>rcases hmx with ⟨rfl,rfl⟩|⟨q3,rfl⟩<;>rcases hhi with ⟨rfl,rfl,hm⟩|⟨q2,rfl⟩<;>(try cases hm) <;>
    simp [Instr.sliceBounds,Instr.sliceBound,asIntOf,A7j hs,h1,h2,h3,Result.andThen]
theorem sD (hu:P.underlying t=some (.array n et)) (hs:sizeT P et=some s) {ad:Addr} {h:Nat} {lo hi mx:Option Value}
    (hlo:(lo=none/\l=0)\/∃ q,lo=some (.int q l)) (hhi:(hi=none/\h=n/\mx=none)\/∃ q,hi=some (.int q h)) (hmx:(mx=none/\m=n)\/∃ q,mx=some (.int q m)) (h1:l<=h) (h2:h<=m) (h3:m<=n) :
    (Instr.sliceAt t (.pointer (some ad)) lo hi mx).run P w=.ok (.slice (some (if m=l then ad else ad.add (l * s))) (h - l) (m - l)) w:=by
  have hl0:(0:Int)<=l:=by omega
  have hh0:(0:Int)<=h:=by omega
  have hm0:(0:Int)<=m:=by omega
  unfold Instr.sliceAt;rw [s_b,r_u hu];simp only [r_o]
  rcases hlo with ⟨rfl,rfl⟩|⟨q1,rfl⟩<;>rcases hmx with ⟨rfl,rfl⟩|⟨q3,rfl⟩<;>rcases hhi with ⟨rfl,rfl,hm⟩|⟨q2,rfl⟩<;>(try cases hm) <;>
    simp [Instr.sliceBounds,Instr.sliceBound,asIntOf,Instr.sureAddr,A7j hs,h1,h2,h3,Result.andThen]
theorem IB (hev:EvR e ev a) {x:Option Operand} {d:Nat} (hx:fZ (omap ev x) d c=some m):m<=c/\((x.map a.eval=none/\m=d/\omap ev x=none)\/∃ q,x.map a.eval=some (.int q (m:Int))):=by
  unfold fZ at hx;split at hx
  · rename_i hn
    cases hb:Nat.ble d c with
   |false=>rw [hb] at hx;cases hx
   |true =>
      rw [hb] at hx;cases hx;cases x with
     |none=>exact ⟨n_l hb,.inl ⟨rfl,rfl,rfl⟩⟩
     |some y=>cases hn
  · rename_i q m2 hn
    cases hb:Nat.ble m2 c with
   |false=>rw [hb] at hx;cases hx
   |true =>
      rw [hb] at hx;cases hx;cases x with
     |none=>cases hn
     |some y =>
        have h1:ev y=some (.int q (Int.ofNat m)):=by unfold omap at hn;simpa using hn
        have h2:=hev _ _ h1;generalize hu:a.eval y=u at h2;cases h2;exact ⟨n_l hb,.inr ⟨q,by simp [hu]⟩⟩
  · cases hx
theorem OE (hev:EvR e ev a) {mx:Option Operand} {v:Value} (hx:aslice size ad len cap (omap ev lo) (omap ev hi) (omap ev mx)=some v) :
    ∃ l h m,xX size ad l h m=some v/\l<=h/\h<=(if HALF<=cap then len else cap)/\((lo.map a.eval=none/\l=0)\/∃ q,lo.map a.eval=some (.int q (l:Int))) /\
      ((mx.map a.eval=none/\m=cap/\(HALF<=cap->HALF+l<=cap)/\((hi.map a.eval=none/\h=len)\/∃ q,hi.map a.eval=some (.int q (h:Int)))) \/
       ((∃ q,mx.map a.eval=some (.int q (m:Int)))/\m<=(if HALF<=cap then len else cap)/\h<=m/\m < HALF/\∃ q,hi.map a.eval=some (.int q (h:Int)))):=by
  have hbd:cond (Nat.ble HALF cap) len cap=if HALF<=cap then len else cap:=by
    by_cases hc:HALF<=cap
    · rw [if_pos hc,Nat.ble_eq_true_of_le hc];rfl
    · rw [if_neg hc]
      cases hb:Nat.ble HALF cap with
     |true=>exact absurd (n_l hb) hc
     |false=>rfl
  unfold aslice at hx;rw [hbd] at hx;split at hx
  · rename_i hmx
    have hmx':mx.map a.eval=none:=by cases mx<;>first|rfl|cases hmx
    split at hx
    · rename_i hh hhi
      obtain ⟨b1,b2⟩:=IB hev hhi;split at hx
      · rename_i l hlo
        obtain ⟨c1,c2⟩:=IB hev hlo;cases hb:cond (Nat.ble HALF cap) (Nat.ble (Nat.add HALF l) cap) true with
       |false=>rw [hb] at hx;cases hx
       |true =>
          rw [hb] at hx;refine ⟨l,hh,cap,hx,c1,b1,c2.imp (fun q=>⟨q.1,q.2.1⟩) id,.inl ⟨hmx',rfl,fun hc=>?_,b2.imp (fun q=>⟨q.1,q.2.1⟩) id⟩⟩;rw [Nat.ble_eq_true_of_le hc] at hb;exact n_l hb
      · cases hx
    · cases hx
  · rename_i y hmx
    split at hx
    · rename_i m hm
      obtain ⟨b1,b2⟩:=IB hev hm;split at hx
      · cases hx
      · rename_i y2 hhi0
        split at hx
        · rename_i hh hhi
          obtain ⟨c1,c2⟩:=IB hev hhi;split at hx
          · rename_i l hlo
            obtain ⟨d1,d2⟩:=IB hev hlo;cases hb:Nat.blt m HALF with
           |false=>rw [hb] at hx;cases hx
           |true =>
              rw [hb] at hx;have hmH:m < HALF:=n_l hb;refine ⟨l,hh,m,hx,d1,Nat.le_trans c1 b1,d2.imp (fun q=>⟨q.1,q.2.1⟩) id,.inr ⟨?_,b1,c1,hmH,?_⟩⟩
              · rcases b2 with ⟨_,_,b3⟩|b2
                · rw [hmx] at b3;cases b3
                · exact b2
              · rcases c2 with ⟨_,_,c3⟩|c2
                · rw [hhi0] at c3;cases c3
                · exact c2
          · cases hx
        · cases hx
    · cases hx
theorem PY {h:Nat} {v:Value} (hx:xX size (some ⟨k,off,none⟩) l h m=some v):v=.slice (some ⟨k,if m=l then off else off+l * size,none⟩) (h - l) (m - l):=by
  unfold xX at hx;simp only [JM] at hx;cases hx;by_cases hml:m=l
  · subst hml
    have:Nat.beq m m=true:=Nat.beq_refl m;rw [this,if_pos rfl];rfl
  · have:Nat.beq m l=false:=by
      cases hb:Nat.beq m l
      · rfl
      · exact absurd (n_q hb) hml
    rw [this,if_neg hml];rfl
theorem XF:(if m=l then some (⟨g,off,none⟩:Addr) else (some (⟨g,off,none⟩:Addr)).map (·.add (l * s)))=some ⟨g,if m=l then off else off+l * s,none⟩:=by
  split
  · rfl
  · rw [Option.map_some,Addr.add_lit]
theorem Px {d x:Nat}:(if m=l then off else off+x)+d=if m=l then off+d else off+d+x:=by
  split<;>omega
theorem Fh {mx:Option Operand} {v:Value} (ho:o.op=.slice t x lo hi mx) (hu:a.eval x=u) (hrun:(Instr.sliceAt t u (lo.map a.eval) (hi.map a.eval) (mx.map a.eval)).run P w=.ok v w):(execOp a.eval o).run P w=.ok (.value v) w:=by
  unfold execOp;simp only [ho,hu,s_b,hrun,r_o,s_p]
theorem zU {mx:Option Operand} {v:Value} (ho:o.op=.slice t x lo hi mx) (hev:EvR e ev a) (hx:S9 P t (ev x) (omap ev lo) (omap ev hi) (omap ev mx)=some v):RsV P a o w e v:=by
  unfold S9 at hx;split at hx
  · rename_i ad len cap hk
    split at hx
    · rename_i et s he
      obtain ⟨h1,h2⟩:=EF he;obtain ⟨l,hh,m,hc,b1,b2,b3,b4⟩:=OE hev hx;have hp:=hev _ _ hk;generalize hu:a.eval x=u at hp;have bm:(mx.map a.eval=none/\m=cap/\(HALF<=cap->HALF+l<=cap)/\((hi.map a.eval=none/\hh=len)\/∃ q,hi.map a.eval=some (.int q (hh:Int))))\/((∃ q,mx.map a.eval=some (.int q (m:Int)))/\m<=(if HALF<=cap then len else cap)/\hh<=m/\m < HALF/\∃ q,hi.map a.eval=some (.int q (hh:Int))):=b4;cases hp with
     |sliceNil =>
        have hH:¬ HALF<=0:=by unfold HALF;omega
        rw [if_neg hH] at b2
        have hm0:m=0:=by
          rcases bm with ⟨_,q,_⟩|⟨_,q,_⟩
          · exact q
          · rw [if_neg hH] at q;omega
        obtain rfl:hh=0:=by omega
        obtain rfl:l=0:=by omega
        subst hm0;cases hc;refine ⟨.slice none 0 0,Fh ho hu ?_,.sliceNil⟩;have hr:=NU (P:=P) (w:=w) h1 h2 (ad:=none) (n:=0) (c:=0) (l:=0) (h:=0) (m:=0) (lo:=lo.map a.eval) (hi:=hi.map a.eval) (mx:=mx.map a.eval) b3 (by rcases bm with ⟨q1,_,_,q2⟩|⟨q1,_,_,_,q2⟩;exact q2.imp (fun q=>⟨q.1,q.2,q1⟩) id;exact .inr q2) (by rcases bm with ⟨q1,_⟩|⟨q1,_⟩;exact .inl ⟨q1,rfl⟩;exact .inr q1) (Nat.le_refl _) (Nat.le_refl _) (Nat.le_refl _);simpa using hr
     |slice hg hn hcc =>
        rename_i k off g c0;obtain ⟨c0,d⟩:=c0;simp only at hn hcc hu;have hv:=PY hc;subst hv;by_cases hH:HALF<=cap
        · rw [if_pos hH] at b2
          obtain ⟨d1,d2⟩:=hcc hH;have hcap:capOf c0 cap=c0+cap - NOM:=by unfold capOf;rw [if_neg (by omega)]
          have hHN:HALF=2305843009213693952:=rfl;have hNN:NOM=4611686018427387904:=rfl;rcases bm with ⟨q1,rfl,q3,q4⟩|⟨q1,q2,q3,q4,q5⟩
          · have q3:=q3 hH
            have hml:¬ m=l:=by omega
            rw [if_neg hml];have hr:=NU (P:=P) (w:=w) h1 h2 (ad:=some ⟨g,off+d,none⟩) (n:=len) (c:=capOf c0 m) (l:=l) (h:=hh) (m:=capOf c0 m) (lo:=lo.map a.eval) (hi:=hi.map a.eval) (mx:=mx.map a.eval) b3 (q4.imp (fun q=>⟨q.1,q.2,q1⟩) id) (.inl ⟨q1,rfl⟩) b1 (by omega) (Nat.le_refl _);rw [XF] at hr;refine ⟨_,Fh ho hu hr,?_⟩;by_cases hz:capOf c0 m=l
            · have e1:hh - l=0:=by omega
              rw [if_pos hz,e1,hz,Nat.sub_self];exact .sliceE hg (.inl (by omega)) (by omega)
            · rw [if_neg hz]
              have e2:capOf c0 m - l=capOf c0 (m - l):=by
                unfold capOf;rw [if_neg (by omega),if_neg (by omega)];unfold capOf at hz hn hcap;omega
              rw [e2];have h9:=VR.slice (e:=e) (off:=off+l * s) (n:=hh - l) (c:=m - l) hg (by rw [<- e2];omega) (fun _=>⟨by simp only;omega,by omega⟩);rwa [Nat.add_right_comm] at h9
          · rw [if_pos hH] at q2
            have hr:=NU (P:=P) (w:=w) h1 h2 (ad:=some ⟨g,off+d,none⟩) (n:=len) (c:=capOf c0 cap) (l:=l) (h:=hh) (m:=m) (lo:=lo.map a.eval) (hi:=hi.map a.eval) (mx:=mx.map a.eval) b3 (.inr q5) (.inr q1) b1 q3 (by omega);rw [XF] at hr;exact xbj
        · rw [if_neg hH] at b2
          have hcap:capOf c0 cap=cap:=by unfold capOf;rw [if_pos (by omega)]
          have hmc:m<=cap/\hh<=m:=by
            exact xeu
          rw [hcap] at hn hu;have hr:=NU (P:=P) (w:=w) h1 h2 (ad:=some ⟨g,off+d,none⟩) (n:=len) (c:=cap) (l:=l) (h:=hh) (m:=m) (lo:=lo.map a.eval) (hi:=hi.map a.eval) (mx:=mx.map a.eval) b3 (by rcases bm with ⟨q1,_,_,q2⟩|⟨q1,_,_,_,q2⟩;exact q2.imp (fun q=>⟨q.1,q.2,q1⟩) id;exact .inr q2) (by rcases bm with ⟨q1,q2,_⟩|⟨q1,_⟩;exact .inl ⟨q1,q2⟩;exact .inr q1) b1 hmc.2 hmc.1;rw [XF] at hr;exact xbj
     |sliceE hg hcE hc2 =>
        rename_i k off off' g c0;have hv:=PY hc;subst hv;have hHN:HALF=2305843009213693952:=rfl;have hNN:NOM=4611686018427387904:=rfl
        have hh0:hh=0:=by
          by_cases hH:HALF<=cap
          · rw [if_pos hH] at b2;omega
          · rw [if_neg hH] at b2;omega
        subst hh0;obtain rfl:l=0:=by omega
        have hrun:∀ {lo' hi' mx':Option Value},((lo'=none/\(0:Nat)=0)\/∃ q,lo'=some (.int q ((0:Nat):Int)))->((hi'=none/\(0:Nat)=0/\mx'=none)\/∃ q,hi'=some (.int q ((0:Nat):Int)))->((mx'=none/\(0:Nat)=0)\/∃ q,mx'=some (.int q ((0:Nat):Int)))->(Instr.sliceAt t (.slice (some ⟨g,off',none⟩) 0 0) lo' hi' mx').run P w=.ok (.slice (some ⟨g,off',none⟩) 0 0) w:=by
          intro lo' hi' mx' r1 r2 r3;have:=NU (P:=P) (w:=w) h1 h2 (ad:=some ⟨g,off',none⟩) (n:=0) (c:=0) (l:=0) (h:=0) (m:=0) r1 r2 r3 (Nat.le_refl _) (Nat.le_refl _) (Nat.le_refl _);simpa using this
        rcases bm with ⟨q1,rfl,q3,q4⟩|⟨q1,q2,q3,q4,q5⟩
        · refine ⟨_,Fh ho hu (hrun b3 (q4.imp (fun q=>⟨q.1,q.2,q1⟩) id) (.inl ⟨q1,rfl⟩)),?_⟩
          exact .sliceE hg (by omega) (by omega)
        · have hm0:m=0:=by
            by_cases hH:HALF<=cap
            · rw [if_pos hH] at q2;omega
            · rw [if_neg hH] at q2;omega
          subst hm0;refine ⟨_,Fh ho hu (hrun b3 (.inr q5) (.inr q1)),?_⟩;exact .sliceE hg (.inr rfl) (by omega)
    · cases hx
  · rename_i ad hk
    split at hx
    · rename_i n et s he
      obtain ⟨h1,h2⟩:=JO he;cases hb:Nat.blt n HALF with
     |false=>rw [hb] at hx;cases hx
     |true =>
        rw [hb] at hx;have hnH:n < HALF:=n_l hb;obtain ⟨l,hh,m,hc,b1,b2,b3,bm⟩:=OE hev hx;have hH:¬ HALF<=n:=by omega
        rw [if_neg hH] at b2;have hp:=hev _ _ hk;generalize hu:a.eval x=u at hp;cases hp;rename_i k off g c0 hg;obtain ⟨c0,d⟩:=c0;simp only at hu;have hv:=PY hc;subst hv
        have hmc:m<=n/\hh<=m:=by
          exact xeu
        have hr:=sD (P:=P) (w:=w) h1 h2 (ad:=⟨g,off+d,none⟩) (l:=l) (h:=hh) (m:=m) (lo:=lo.map a.eval) (hi:=hi.map a.eval) (mx:=mx.map a.eval) b3 (by rcases bm with ⟨q1,_,_,q2⟩|⟨q1,_,_,_,q2⟩;exact q2.imp (fun q=>⟨q.1,q.2,q1⟩) id;exact .inr q2) (by rcases bm with ⟨q1,q2,_⟩|⟨q1,_⟩;exact .inl ⟨q1,q2⟩;exact .inr q1) b1 hmc.2 hmc.1
        have e3:(if m=l then (⟨g,off+d,none⟩:Addr) else (⟨g,off+d,none⟩:Addr).add (l * s))=⟨g,if m=l then off+d else off+d+l * s,none⟩:=by
          split
          · rfl
          · rw [Addr.add_lit]
        rw [e3] at hr;exact xbj
    · cases hx
  · cases hx
end
variable {b r:Bool} {m:Int} {k l:IntKind} {cs cs' ds ds':L_} {n off:Nat} {x y:Operand} {s t yt:TypeId} {u u' v':Value}
section
variable {P:Program} {ev:Ev} {e:En} {h:AH} {w0:Base} {w:World} {a:Act} {o:Oper}
theorem U8 {α:Type}:∀ (s:Sem α) (x:α),fP P s=some x->∀ w,s.run P w=.ok x w
|.pure _,x,h,w=>by cases h;rfl
|.program k,x,h,w=>U8 (k P) x h w
|.load ..,x,h,w=>by cases h
|.store ..,x,h,w=>by cases h
|.new ..,x,h,w=>by cases h
|.shape ..,x,h,w=>by cases h
|.freeze ..,x,h,w=>by cases h
|.frozen ..,x,h,w=>by cases h
|.getObj ..,x,h,w=>by cases h
|.setObj ..,x,h,w=>by cases h
|.choose ..,x,h,w=>by cases h
|.sys ..,x,h,w=>by cases h
|.mark ..,x,h,w=>by cases h
|.halt ..,x,h,w=>by cases h
theorem A0g (v:Value):A2s v=some v:=by
 unfold A2s;split
 ·rename_i q z;unfold fint;split<;>rfl
 ·rfl
theorem Lh {x:Sem Value} {v:Value} (hx:Vb P x=some v):(∀ w,x.run P w=.ok v w)/\∀ e,VR e v v:=by
 unfold Vb at hx;split at hx
 ·rename_i v2 hv;cases hf:BM v2 with
 |false=>rw [hf] at hx;cases hx
 |true =>
   rw [hf,cond_true,A0g] at hx;cases hx;exact ⟨U8 _ _ hv,fun e=>GN hf⟩
 ·cases hx
theorem Io (h:Nat.beq (Fe k) (Fe l)=true):k=l:=by
 cases k<;>cases l<;>first|rfl|cases h
theorem qw (h:n<=YR k):k.wrap (n:Int)=n:=by
 cases k
 all_goals
  simp only [YR] at h;simp only [IntKind.wrap,IntKind.bits,IntKind.signed,Bool.true_and,Bool.false_and,decide_eq_true_eq,Bool.false_eq_true,if_false,Nat.reduceSub,ge_iff_le]
  try split
  all_goals omega
theorem Pn {v:Value} (h:uf k n=some v):v=.int k n/\k.wrap (n:Int)=n:=by
 unfold uf at h;rw [JM] at h;cases hb:Nat.ble n (YR k) with
|false=>rw [hb] at h;cases h
|true=>rw [hb] at h;cases h;exact ⟨rfl,qw (n_l hb)⟩
theorem jU (m n:Nat):Nat.beq m n=((m:Int) == (n:Int)):=by
 cases hb:Nat.beq m n
 ·have:m ≠ n:=fun e=>by subst e;rw [Nat.beq_refl] at hb;cases hb
  exact (beq_eq_false_iff_ne.2 (fun e=>this (by omega))).symm
 ·have:=n_q hb;subst this;simp
theorem XA (m n:Nat):Nat.ble m n=decide ((m:Int)<=(n:Int)):=by
 cases hb:Nat.ble m n
 ·have:¬ m<=n:=fun e=>by rw [Nat.ble_eq_true_of_le e] at hb;cases hb
  symm
  simp;omega
 ·have:=n_l hb
  symm
  simp;omega
theorem jT (m n:Nat):Nat.blt m n=decide ((m:Int) < (n:Int)):=by
 unfold Nat.blt;rw [XA]
 congr 1
theorem lV {op:BinOp} {m:Nat} {v:Value} (h:tX op k m n=some v) (w:World):(binOp op t (.int k m) (.int k n)).run P w=.ok v w/\∀ e,VR e v v:=by
 unfold tX at h;split at h
 ·obtain ⟨rfl,hw⟩:=Pn h;refine ⟨?_,fun e=>.int _ _⟩;have hw':k.wrap ((m:Int)+n)=((Nat.add m n:Nat):Int):=by rw [<- hw];rfl
  simp [binOp,Op.intArith,hw']
 ·cases hb:Nat.ble n m with
 |false=>rw [hb] at h;cases h
 |true =>
   rw [hb] at h;obtain ⟨rfl,hw⟩:=Pn h;refine ⟨?_,fun e=>.int _ _⟩;have hle:=n_l hb
   have hw':k.wrap ((m:Int) - n)=((Nat.sub m n:Nat):Int):=by
    rw [<- hw]
    congr 1
    show (m:Int) - n=((m - n:Nat):Int);omega
   simp [binOp,Op.intArith,hw']
 ·obtain ⟨rfl,hw⟩:=Pn h;refine ⟨?_,fun e=>.int _ _⟩;have hw':k.wrap ((m:Int) * n)=((Nat.mul m n:Nat):Int):=by rw [<- hw];rfl
  simp [binOp,Op.intArith,hw']
 ·cases h;exact ⟨by simp [binOp,Op.intCmp,jU],fun e=>.bool _⟩
 ·cases h;exact ⟨by simp [binOp,Op.intCmp,jU,bne],fun e=>.bool _⟩
 ·exact xfd
 ·exact xfc
 ·exact xfd
 ·exact xfc
 ·cases h
theorem lW {op:BinOp} {x y:Int} {v:Value} (h:tZ P op t k l x y=some v) (w:World):(binOp op t (.int k x) (.int l y)).run P w=.ok v w/\∀ e,VR e v v:=by
 have slow:∀ {x y:Int},Jg P op t k l x y=some v->(binOp op t (.int k x) (.int l y)).run P w=.ok v w/\∀ e,VR e v v:=fun hx=>⟨(Lh hx).1 w,(Lh hx).2⟩;unfold tZ at h;split at h
 ·rename_i m;split at h
  ·rename_i n;cases hb:Nat.beq (Fe k) (Fe l) with
  |false=>rw [hb] at h;exact slow h
  |true =>
    rw [hb] at h;have:=Io hb;subst this;simp only [cond_true] at h;unfold oOr at h;split at h
    ·rename_i v2 hv;cases h;exact lV hv w
    ·exact slow h
  ·exact slow h
 ·exact slow h
theorem FU {op:BinOp} {v:Value} (ho:o.op=.binOp op t x y yt) (hg:(eqGuard op t x y (a.eval x) (a.eval y)).run P w=.ok () w) (hb:(binOp op t (a.eval x) (a.eval y)).run P w=.ok v w):(execOp a.eval o).run P w=.ok (.value v) w:=by
 unfold execOp;simp only [ho,s_b,hg,hb,r_o,s_p]
theorem nH {op:BinOp} {n:Int}:(eqGuard op t x y (.int k m) (.int l n)).run P w=.ok () w:=xhz
theorem Tq {op:BinOp} {m n:Bool}:(eqGuard op t x y (.bool m) (.bool n)).run P w=.ok () w:=xhz
theorem Ob {op:BinOp} {m n:ByteArray}:(eqGuard op t x y (.string m) (.string n)).run P w=.ok () w:=xhz
theorem Fj {v:Value}:(Op.equal t u v).run P w=(Op.equalIn (9999+1) t u v).run P w:=rfl
theorem lY {v:Value} {op:BinOp} (h:um P t (isK x || isK y) u v=some b) (hu:VR e u u') (hv:VR e v v') :
  (Op.equal t u' v').run P w=.ok b w/\(eqGuard op t x y u' v').run P w=.ok () w/\(op=.eql->binOp op t u' v'=(do pure (.bool (<- Op.equal t u' v'))))/\(op=.neq->binOp op t u' v'=(do pure (.bool (!(<- Op.equal t u' v'))))):=by
 have hkc:∀ {b:Bool},cond (isK x || isK y) (some true) none=some b->b=true/\((x matches .const _) || (y matches .const _))=true:=by
  intro b hb;unfold isK at hb;cases x<;>cases y<;>first|(cases hb;exact ⟨rfl,rfl⟩)|cases hb
 unfold um at h;split at h
 ·rename_i et hut;exact xch
 ·rename_i et hut;split at h
  all_goals first|(cases h;done)|skip
  all_goals (cases h;cases hu<;>cases hv<;>refine ⟨?_,?_,?_,?_⟩)
  all_goals first
  |(rw [Fj];unfold Op.equalIn;simp [r_u hut];done)
  |(unfold eqGuard;cases op<;>rfl)
  |(intro h2;subst h2;rfl)
 ·rename_i et hut;split at h
  ·obtain ⟨rfl,hk⟩:=hkc h;cases hu;cases hv;refine ⟨?_,?_,?_,?_⟩
   ·rw [Fj];unfold Op.equalIn;simp [r_u hut]
   ·unfold eqGuard;cases op<;>cases x<;>cases y<;>first|rfl|cases hk
   ·intro h2;subst h2;rfl
   ·intro h2;subst h2;rfl
  ·exact xcz
  ·exact xcz
  ·cases h
 ·rename_i hut;exact xch
 ·cases h
theorem VY:∀ (a b:List UInt8),oD a b=(a == b)
|[],[]=>rfl
|[],_::_=>rfl
|_::_,[]=>rfl
|a::l,b::m=>by
  unfold oD;rw [VY l m];show _=(a == b && l == m)
  congr 1
  cases hb:Nat.beq a.toNat b.toNat
  ·have:a ≠ b:=fun e=>by subst e;rw [Nat.beq_refl] at hb;cases hb
   symm
   simpa using this
  ·have:=n_q hb;have:a=b:=UInt8.toNat_inj.1 this;subst this;simp
theorem A0J (a b:ByteArray):(a.toList == b.toList)=oD a.data.toList b.data.toList:=by
 rw [VY,ByteArray.toList_eq,ByteArray.toList_eq]
theorem PN {x y:Option Bool} (h:xg x y=some b):(x=some false/\b=false)\/(x=some true/\y=some b):=by
 cases x with
|none=>cases h
|some c =>
  cases c with
 |false=>cases h;exact .inl ⟨rfl,rfl⟩
 |true=>exact .inr ⟨rfl,h⟩
theorem Qr {a b:Value} (h:cmpInt a b=some r):∃ k x y,a=.int k x/\b=.int k y/\r=(x == y):=by
 unfold cmpInt at h;split at h
 ·rename_i k x l y;cases hb:Nat.beq (Fe k) (Fe l) with
 |false=>rw [hb] at h;cases h
 |true =>
   rw [hb] at h;cases h;exact ⟨k,x,y,rfl,by rw [Io hb],rfl⟩
 ·cases h
def kM (P:Program) (C:Cmp) (d:Nat):Prop:=∀ (e:En) (t:TypeId) (u v u' v':Value) (b:Bool) (k:Nat) (w:World),C t u v=some b->VR e u u'->VR e v v'->(Op.equalIn (k+d) t u' v').run P w=.ok b w
theorem Oo {C:Cmp} {d k:Nat} (hC:kM P C d) (h:A0B C t (apart P t cs off) (apart P t ds off)=some b) (h1:VRs e cs cs') (h2:VRs e ds ds') (w:World) :
  ∃ u v,(part t cs'.toArray off).run P w=.ok u w/\(part t ds'.toArray off).run P w=.ok v w/\(Op.equalIn (k+d) t u v).run P w=.ok b w:=by
 unfold A0B at h;split at h
 ·rename_i a1 a2 e1 e2;obtain ⟨u,u1,u2⟩:=JV e1 h1 w;obtain ⟨v,v1,v2⟩:=JV e2 h2 w;exact ⟨u,v,u1,v1,hC _ _ _ _ _ _ _ k w h u2 v2⟩
 ·cases h
theorem Oq {C:Cmp} {d k:Nat} (hC:kM P C d) {t:TypeId} {s:Nat} {cs ds cs' ds':L_} (h1:VRs e cs cs') (h2:VRs e ds ds') (w:World):∀ (n i:Nat) {b:Bool},Ot P C t s cs ds n i=some b->(Op.eqItems (k+d) t s cs'.toArray ds'.toArray (List.range' i n)).run P w=.ok b w
|0,i,b,h=>by cases h;simp [Op.eqItems]
|n+1,i,b,h=>by
  unfold Ot at h;rw [List.range'_succ];rcases PN h with ⟨h3,rfl⟩|⟨h3,h4⟩
  ·obtain ⟨u,v,p1,p2,p3⟩:=Oo (k:=k) hC h3 h1 h2 w;simp only [Op.eqItems,s_b,show (part t cs'.toArray (i * s)).run P w=.ok u w from p1,show (part t ds'.toArray (i * s)).run P w=.ok v w from p2,p3,r_o];rfl
  ·obtain ⟨u,v,p1,p2,p3⟩:=Oo (k:=k) hC h3 h1 h2 w;simp only [Op.eqItems,s_b,show (part t cs'.toArray (i * s)).run P w=.ok u w from p1,show (part t ds'.toArray (i * s)).run P w=.ok v w from p2,p3,r_o];exact Oq hC h1 h2 w n (i+1) h4
theorem MW {C:Cmp} {d k:Nat} (hC:kM P C d) {cs ds cs' ds':L_} (h1:VRs e cs cs') (h2:VRs e ds ds') (w:World):∀ (fs:List Field) {b:Bool},LH P C cs ds fs=some b->(Op.eqFields (k+d) cs'.toArray ds'.toArray fs).run P w=.ok b w
|[],b,h=>by cases h;simp [Op.eqFields]
|f::fs,b,h=>by
  unfold LH at h;cases hn:(f.name == "_") with
 |true=>rw [hn] at h;cases h
 |false =>
   rw [hn] at h;have hn:f.name ≠ "_":=by simpa using hn
   simp only [cond_false] at h;rcases PN h with ⟨h3,rfl⟩|⟨h3,h4⟩
   ·obtain ⟨u,v,p1,p2,p3⟩:=Oo (k:=k) hC h3 h1 h2 w;simp only [Op.eqFields,hn,ne_eq,not_false_eq_true,if_true,s_b,p1,p2,p3,r_o];rfl
   ·obtain ⟨u,v,p1,p2,p3⟩:=Oo (k:=k) hC h3 h1 h2 w;simp only [Op.eqFields,hn,ne_eq,not_false_eq_true,if_true,s_b,p1,p2,p3,r_o];exact MW hC h1 h2 w fs h4
theorem Z4 (h:Xf P t=true):∃ k,P.underlying t=some (.int k):=by
 unfold Xf at h;split at h
 ·rename_i k hk;exact ⟨k,hk⟩
 ·cases h
theorem ZG (m:L_):Ou [] m=match m with|[]=>some true|_::_=>none:=by cases m<;>rfl
theorem Xz (a:Value) (l m:L_):Ou (a::l) m=match m with|[]=>none|b::m=>xg (cmpInt a b) (Ou l m):=by cases m<;>rfl
theorem Qq {t:TypeId} {kd:IntKind} (hu:P.underlying t=some (.int kd)) {cs' ds':L_} (d:Nat) (w:World):∀ (cs ds:L_) (i:Nat) {b:Bool},Ou cs ds=some b->VRs e cs (cs'.drop i)->VRs e ds (ds'.drop i)->(Op.eqItems (d+1) t 1 cs'.toArray ds'.toArray (List.range' i cs.length)).run P w=.ok b w
|[],ds,i,b,h,_,_=>by
  rw [ZG] at h;split at h
  ·cases h;simp [Op.eqItems]
  ·cases h
|a::cs,ds,i,b,h,h1,h2=>by
  rw [Xz] at h;split at h
  ·cases h
  ·rename_i c ds;have ha:XE P t=some false:=by unfold XE;rw [hu]
   have cell:∀ {l l':L_} {x:Value},VRs e (x::l) (l'.drop i)->∃ y,VR e x y/\VRs e l (l'.drop (i+1))/\(part t l'.toArray (i * 1)).run P w=.ok y w:=by
    intro l l' x hv;generalize hq:l'.drop i=q at hv;cases hv;rename_i y l2 hy hl2;refine ⟨y,hy,?_,?_⟩
    ·have:l'.drop (i+1)=l2:=by rw [<- List.drop_drop,hq];rfl
     rw [this];exact hl2
    ·have hy2:l'[i]?=some y:=by
      have h5:(l'.drop i)[0]?=l'[i]?:=by rw [List.getElem?_drop,Nat.add_zero]
      rw [<- h5,hq];rfl
     simp [part,isAgg,hy2,r_u hu]
   obtain ⟨x,x1,x2,x3⟩:=cell h1;obtain ⟨y,y1,y2,y3⟩:=cell h2;rw [List.length_cons,List.range'_succ]
   have heq:∀ {r:Bool},cmpInt a c=some r->(Op.equalIn (d+1) t x y).run P w=.ok r w:=by
    intro r hr;obtain ⟨k,m,n,rfl,rfl,rfl⟩:=Qr hr;cases x1;cases y1;exact run_equalIn_int w d t k kd m n hu
   rcases PN h with ⟨h3,rfl⟩|⟨h3,h4⟩
   ·simp only [Op.eqItems,s_b,x3,y3,heq h3,r_o];rfl
   ·simp only [Op.eqItems,s_b,x3,y3,heq h3,r_o];exact Qq hu d w cs ds (i+1) h4 x2 y2
theorem Xy:∀ d,kM P (wZ P d) (d+1)
|0=>fun _ _ _ _ _ _ _ _ _ h=>by cases h
|d+1=>fun e t u v u' v' b k w h h1 h2=>by
  unfold wZ at h;split at h
  ·rename_i hu;split at h
   ·cases h;cases h1;cases h2;exact run_equalIn_bool' w (k+(d+1)) t _ _ hu
   ·cases h
  ·rename_i kd hu;obtain ⟨kq,m,n,rfl,rfl,rfl⟩:=Qr h;cases h1;cases h2;exact run_equalIn_int w (k+(d+1)) t kq kd m n hu
  ·rename_i n et hu;split at h
   ·rename_i cs ds;generalize hcs:Value.agg cs=x1 at h1;generalize hds:Value.agg ds=x2 at h2;cases h1<;>cases hcs;cases h2<;>cases hds;rename_i c1 c1' hc d1 d1' hd;unfold xk at h;split at h
    ·rename_i s hs;obtain ⟨i,i1,i2⟩:=Ii hs;have hcell:P.cellsOf et=s:=by simp [Program.cellsOf,i1,i2]
     have hrun:=run_equalIn_array (w:=w) (k+(d+1)) (t:=t) c1'.toArray d1'.toArray hu i1;rw [hcell] at hrun;rw [show k+(d+1+1)=k+(d+1)+1 from rfl,hrun,List.range_eq_range'];cases hb:(Xf P et && Nat.beq s 1) with
    |true =>
      rw [hb] at h;rw [b_t] at hb;obtain ⟨kd,hk⟩:=Z4 hb.1;have hs1:=n_q hb.2;subst hs1;simp only [cond_true] at h;cases hn:Nat.beq c1.length n with
     |false=>rw [hn] at h;cases h
     |true =>
       rw [hn] at h;have hn:=n_q hn;subst hn;exact Qq (e:=e) hk (k+d) w c1 d1 0 h (by simpa using hc) (by simpa using hd)
    |false =>
      rw [hb] at h;exact Oq (Xy d) hc hd w n 0 h
    ·cases h
   ·cases h
  ·rename_i fs hu;split at h
   ·rename_i cs ds;generalize hcs:Value.agg cs=x1 at h1;generalize hds:Value.agg ds=x2 at h2;cases h1<;>cases hcs;cases h2<;>cases hds;rename_i c1 c1' hc d1 d1' hd;cases hst:P.stoodInHeld t with
   |true=>rw [hst] at h;cases h
   |false =>
     rw [hst] at h;simp only [cond_false] at h;have hfs:P.fieldsOf t=fs:=by simp [Program.fieldsOf,hu]
     rw [show k+(d+1+1)=k+(d+1)+1 from rfl,run_equalIn_struct w (k+(d+1)) t _ _ (by rw [hfs];exact hu) hst,hfs];exact MW (Xy d) hc hd w fs.toList h
   ·cases h
  ·cases h
theorem s_bin {op:BinOp} {v:Value} (ho:o.op=.binOp op t x y yt) (hev:EvR e ev a) (hx:A2b P op t (isK x || isK y) (ev x) (ev y)=some v):RsV P a o w e v:=by
 unfold A2b at hx;split at hx
 ·rename_i u hu;split at hx
  ·rename_i y2 hy;have h1:=hev _ _ hu;have h2:=hev _ _ hy;unfold A1k at hx;split at hx
   ·rename_i k m;unfold A1m at hx;split at hx
    ·rename_i l n;generalize hq:a.eval x=q at h1;generalize hr:a.eval y=r at h2;cases h1;cases h2;obtain ⟨h3,h4⟩:=lW hx w;exact ⟨v,FU ho (by rw [hq,hr];exact nH) (by rw [hq,hr];exact h3),h4 e⟩
    ·cases hx
   ·rename_i m;unfold A1n at hx;split at hx
    ·rename_i n;generalize hq:a.eval x=q at h1;generalize hr:a.eval y=r at h2;cases h1;cases h2;unfold uj at hx;cases hb:Xg P t with
    |false=>rw [hb] at hx;cases hx
    |true =>
      rw [hb] at hx
      have hut:P.underlying t=some .bool:=by
       unfold Xg at hb;split at hb
       ·assumption
       ·cases hb
      have heq:(Op.equal t (.bool m) (.bool n)).run P w=.ok (m == n) w:=by rw [Fj];unfold Op.equalIn;simp [r_u hut]
      simp only [cond_true] at hx;split at hx
      ·exact xd8
      ·exact xd8
      ·cases hx
    ·cases hx
   ·rename_i m;unfold A1l at hx;split at hx
    ·rename_i n;generalize hq:a.eval x=q at h1;generalize hr:a.eval y=r at h2;cases h1;cases h2;have hb:=A0J m n;split at hx
     ·exact xdv
     ·exact xdv
     ·cases hx
    ·cases hx
   ·rename_i cs;unfold A1o at hx;split at hx
    ·rename_i ds;cases hg:P.eqGuardType P.depth t with
    |true=>rw [hg] at hx;cases hx
    |false =>
      rw [hg] at hx;simp only [cond_false] at hx;split at hx
      ·rename_i b hb;have heq:(Op.equal t (a.eval x) (a.eval y)).run P w=.ok b w:=Xy 6 e _ _ _ _ _ _ 9993 w hb h1 h2;generalize hq:a.eval x=q at h1 heq;generalize hr:a.eval y=r at h2 heq;cases h1;cases h2;have hgd:=run_eqGuard_agg (P:=P) w op t x y;split at hx
       ·exact xdl
       ·exact xdl
       ·cases hx
      ·cases hx
    ·cases hx
   ·unfold A1j at hx;split at hx
    ·rename_i b hb;obtain ⟨h3,h4,h5,h6⟩:=lY (w:=w) (op:=op) hb h1 h2;split at hx
     ·cases hx;exact ⟨_,FU ho h4 (by rw [h5 rfl];simp [h3]),.bool _⟩
     ·cases hx;exact ⟨_,FU ho h4 (by rw [h6 rfl];simp [h3]),.bool _⟩
     ·cases hx
    ·cases hx
  ·cases hx
 ·cases hx
theorem s_un {op:UnOp} {v:Value} (ho:o.op=.unOp op t x) (hev:EvR e ev a) (hx:oUn P op (ev x)=some v):RsV P a o w e v:=by
 unfold oUn at hx;split at hx
 ·rename_i k m hk;exact xc4
 ·rename_i b hk;have h1:=hev _ _ hk;generalize hq:a.eval x=q at h1;cases h1;split at hx
  ·cases hx;refine ⟨_,?_,.bool _⟩;unfold execOp;simp [ho,hq,Op.unary]
  ·cases hx
 ·cases hx
theorem bG {d:TypeId} {v:Value} (ho:o.op=.convert s d x) (hev:EvR e ev a) (hk:ev x=some (.int k m)) (hx:Vb P (convert s d (.int k m))=some v):RsV P a o w e v:=xc4
end
variable {r:Uu} {n:Nat} {k m x:Operand} {kt t vt:TypeId} {b u:Value}
section
variable {P:Program} {ev:Ev} {e:En} {h:AH} {w0:Base} {w:World} {a:Act} {o:Oper}
def G6 (P:Program):Prop:=(∀ kt,kt ∈ Td->Maps.Keyed P kt)/\∀ kt v,kt ∈ Td->KN kt v=true->(keyOf P kt v).isSome=true
theorem VRs.flat {e:En}:∀ {a b:L_},VRs e a b->a.all BM=true->b=a
|_,_,.nil,_=>rfl
|_,_,.cons hv ht,h=>by
  rw [List.all_cons,b_t] at h;rw [VRs.flat ht h.2]
  congr 1
  cases hv<;>first|rfl|cases h.1
theorem Zg {e:En} {v:Value} (h:flatK v=true) (hv:VR e v u):u=v:=by
 unfold flatK at h;split at h
 ·cases hv;rfl
 ·cases hv;rename_i a b hab;rw [VRs.flat hab (by simpa using h)]
 ·cases h
theorem KP {k:IntKind} {v:Value} (h:isI k v=true):BM v=true/\flatK v=true:=by
 unfold isI at h;split at h
 ·exact ⟨rfl,rfl⟩
 ·exact ⟨rfl,rfl⟩
 ·cases h
theorem PD {k:IntKind} {v:Value} (h:UH k n v=true):flatK v=true:=by
 unfold UH at h;split at h
 ·rename_i cs;split at h
  ·rename_i x hc;show cs.toList.all BM=true;rw [hc];simp [(KP h).1]
  ·rename_i x y hc;show cs.toList.all BM=true;rw [hc];cases hx:isI k x with
  |false=>rw [hx] at h;cases h
  |true =>
    rw [hx] at h;simp [(KP hx).1,(KP h).1]
  ·cases h
 ·cases h
theorem ni {kt:Nat} {v:Value} (h:KN kt v=true):flatK v=true:=by
 unfold KN at h;cases h1:Nat.beq kt 134 with
|true=>rw [h1] at h;exact PD h
|false =>
  rw [h1] at h;cases h2:Nat.beq kt 207 with
 |true=>rw [h2] at h;exact PD h
 |false =>
   rw [h2] at h;cases h3:Nat.beq kt 5 with
  |true=>rw [h3] at h;exact (KP h).2
  |false =>
    rw [h3] at h;cases h4:Nat.beq kt 3 with
   |true=>rw [h4] at h;exact (KP h).2
   |false =>
     rw [h4] at h;cases h5:Nat.beq kt 241 with
    |true=>rw [h5] at h;exact PD h
    |false=>rw [h5] at h;cases h
theorem Lp (hK:G6 P) (hkt:kt ∈ Td) {v:Value} (h:KN kt v=true):flatK v=true/\∃ l,keyOf P kt v=some l :=
 ⟨ni h,Option.isSome_iff_exists.1 (hK.2 kt v hkt h)⟩
theorem Z7 {a:Value} (h:jv a b=true):a ≠ b:=by
 unfold jv at h;split at h
 ·intro e;cases e;simp at h
 ·cases h
theorem Vx:∀ {a b:L_},Xh a b=true->a ≠ b
|a::l,b::m,h,e=>by
  unfold Xh at h;cases e;rw [Bool.or_eq_true] at h;rcases h with h|h
  ·exact Z7 h rfl
  ·exact Vx h rfl
|[],_,h,_=>by cases h
|_::_,[],h,_=>by cases h
theorem Tf {a:Value} (h:MF a b=true):a ≠ b:=by
 unfold MF at h;split at h
 ·intro e;cases e;exact Vx h rfl
 ·exact Z7 h
theorem Z8 {a:Value} (h:jw a b=true):a=b:=by
 unfold jw at h;split at h
 ·rw [b_t] at h;rw [Io h.1,of_decide_eq_true h.2]
 ·cases h
theorem Vy:∀ {a b:L_},Xi a b=true->a=b
|[],[],_=>rfl
|a::l,b::m,h=>by
  unfold Xi at h;rw [b_t] at h;rw [Z8 h.1,Vy h.2]
|[],_::_,h=>by cases h
|_::_,[],h=>by cases h
theorem vF {a:Value} (h:jo a b=true):a=b:=by
 unfold jo at h;split at h
 ·congr 1;exact Array.ext' (Vy h)
 ·exact Z8 h
theorem SC {k:Value}:∀ {es:List (Value × Value)} {v:Value},iZ k es=some v->∃ p ∈ es,p.1=k/\p.2=v
|[],v,h=>by cases h
|p::es,v,h=>by
  unfold iZ at h;cases hb:jo k p.1 with
 |true=>rw [hb] at h;cases h;exact ⟨p,by simp,(vF hb).symm,rfl⟩
 |false =>
   rw [hb] at h;obtain ⟨q,h1,h2⟩:=SC h;exact ⟨q,by simp [h1],h2⟩
theorem SH (hm:Vq P t=some (kt,vt)):P.underlying t=some (.map kt vt)/\kt ∈ Td:=by
 unfold Vq at hm;split at hm
 ·rename_i k v hu;cases hc:Td.contains k with
 |false=>rw [hc] at hm;cases hm
 |true =>
   rw [hc] at hm;cases hm;exact ⟨hu,by simpa using hc⟩
 ·cases hm
theorem s_map (ho:o.op=.makeMap t none) (hr:HX e h w0 w) (hx:tY h=some r):Rs P a o w0 w e h r:=by
 unfold tY at hx;split at hx
 ·rename_i k h' hnew;cases hx;obtain ⟨rfl,h1,h2⟩:=hr.add hnew (Jk w (.map #[] 0)) (Nat.le_refl _) (g:=w.heap.size) (c:=(0,0)) ⟨#[],0,heap_alloc_new w _,by simp,by simp,by simp,rfl⟩;refine ⟨.map (some w.heap.size),_,_,h1,.inl ?_,.map En.EG,h2⟩;unfold execOp;simp only [ho,Option.map_none,Instr.makeMap,s_b,s_p];rfl
 ·cases hx
theorem dS (hK:G6 P) (hev:EvR e ev a) (hr:HX e h w0 w) (hx:JF P t (ev m) (ev k) (ev x) h=some r) :
  ∃ h' w',r=.eff undef h'/\(Instr.mapUpdate t (a.eval m) (a.eval k) (a.eval x)).run P w=.ok () w'/\HX e h' w0 w':=by
 unfold JF at hx;split at hx
 ·rename_i rr k' v hm hk hv;split at hx
  ·rename_i es hes;split at hx
   ·rename_i kt vt hmt;obtain ⟨u1,u2⟩:=SH hmt;cases hb:(KN kt k' && es.all (fun p=>KN kt p.1) && es.all (fun p=>MF p.1 k')) with
   |false=>rw [hb] at hx;cases hx
   |true =>
     rw [hb] at hx;cases hx;simp only [b_t,l_t] at hb;obtain ⟨⟨b1,b2⟩,b3⟩:=hb;obtain ⟨f1,l,f2⟩:=Lp hK u2 b1;have p1:=hev _ _ hm;have p2:=Zg f1 (hev _ _ hk);have p3:=hev _ _ hv;generalize hq1:a.eval m=q1 at p1;cases p1;rename_i g c hg;rw [p2];obtain ⟨hbase,ents,clock,m1,m2,m3,m4,m5⟩:=hr.at hg hes
     have hkeys:∀ y ∈ ents.toList,∃ l,keyOf P kt y.key=some l:=fun y hy=>by
      exact xe5
     rcases (hK.1 kt u2).find w f2 ents.toList hkeys with ⟨g1,g2⟩|⟨j,y,g1,g2,g3⟩
     ·have hlt:=(Array.getElem?_eq_some_iff.1 m1).1
      have hrun:(Instr.mapUpdate t (.map (some g)) k' (a.eval x)).run P w=.ok () (ChangeMaps.setBlock w g (.map (ents.push ⟨k',a.eval x,clock⟩) (clock+1))):=by
       simp [Instr.mapUpdate,r_u u1,MapKept.run_getObj_map m1,(hK.1 kt u2).check w false f2,g1,MapKept.run_setObj_map _ m1,Result.andThen,ChangeMaps.setBlock]
      refine ⟨_,_,rfl,hrun,hr.upd hg hes (w':=ChangeMaps.setBlock w g (.map (ents.push ⟨k',a.eval x,clock⟩) (clock+1))) ⟨rfl,rfl,rfl,by simp [ChangeMaps.setBlock],fun q _ hqr=>by simp only [ChangeMaps.setBlock];rw [Array.getElem?_setIfInBounds_ne (fun e=>hqr (by rw [e]))]⟩ ⟨ents.push ⟨k',a.eval x,clock⟩,clock+1,by simp [ChangeMaps.setBlock,hlt],?_,?_,?_,by simp [m5]⟩⟩
      ·intro p hp;rcases List.mem_append.1 hp with hp|hp
       ·obtain ⟨y,hy,h1,h2⟩:=m2 p hp;exact ⟨y,by simp [hy],h1,h2⟩
       ·obtain rfl:=List.mem_singleton.1 hp;exact ⟨⟨k',a.eval x,clock⟩,by simp,rfl,p3⟩
      ·intro y hy;simp only [Array.toList_push,List.mem_append,List.mem_singleton] at hy;rcases hy with hy|rfl
       ·obtain ⟨p,hp,h1,h2⟩:=m3 y hy;exact ⟨p,by simp [hp],h1,h2⟩
       ·exact ⟨(k',v),by simp,rfl,p3⟩
      ·refine List.pairwise_append.2 ⟨m4,by simp,fun p hp q2 hq=>?_⟩;obtain rfl:=List.mem_singleton.1 hq;exact Tf (b3 p hp)
     ·exfalso;obtain ⟨p,hp,e1,_⟩:=m3 y (l_m g2);exact Tf (b3 p hp) (e1.symm.trans g3)
   ·cases hx
  ·cases hx
 ·cases hx
theorem Y4 (hK:G6 P) (ho:o.op=.insert t m k x\/o.op=.mapUpdate t m k x) (hev:EvR e ev a) (hr:HX e h w0 w) (hx:JF P t (ev m) (ev k) (ev x) h=some r):Rs P a o w0 w e h r:=by
 obtain ⟨h',w',rfl,h1,h2⟩:=dS hK hev hr hx;refine ⟨undef,w',e,En.le.refl e,.inr ⟨?_,rfl⟩,.undef,h2⟩;unfold execOp;rcases ho with ho|ho<;>simp only [ho,s_b,h1,r_o,s_p]
theorem Yi {es:List (Value × Value)} (h:es.Pairwise (fun p q=>p.1 ≠ q.1)) {p q:Value × Value} (hp:p ∈ es) (hq:q ∈ es) (e1:p.1=q.1):p=q:=by
 obtain ⟨i,hi,rfl⟩:=List.getElem_of_mem hp;obtain ⟨j,hj,rfl⟩:=List.getElem_of_mem hq;rcases Nat.lt_trichotomy i j with hlt|rfl|hlt
 ·exact absurd e1 (List.pairwise_iff_getElem.1 h i j hi hj hlt)
 ·rfl
 ·exact absurd e1.symm (List.pairwise_iff_getElem.1 h j i hj hi hlt)
theorem rQ (hK:G6 P) {ok:Bool} {v:Value} (ho:o.op=.lookup t m k ok) (hev:EvR e ev a) (hr:HX e h w0 w) (hx:X4 P t (ev m) (ev k) ok h=some v):RsV P a o w e v:=by
 unfold X4 at hx;split at hx
 ·rename_i rr k' hm hk;split at hx
  ·rename_i es hes;split at hx
   ·rename_i kt vt hmt;obtain ⟨u1,u2⟩:=SH hmt;cases hb:(KN kt k' && es.all (fun p=>KN kt p.1)) with
   |false=>rw [hb] at hx;cases hx
   |true =>
     rw [hb] at hx;simp only [cond_true] at hx;simp only [b_t,l_t] at hb;obtain ⟨b1,b2⟩:=hb;obtain ⟨f1,l,f2⟩:=Lp hK u2 b1;have p1:=hev _ _ hm;have p2:=Zg f1 (hev _ _ hk);generalize hq1:a.eval m=q1 at p1;cases p1;rename_i g c hg;obtain ⟨hbase,ents,clock,m1,m2,m3,m4,m5⟩:=hr.at hg hes
     have hkeys:∀ y ∈ ents.toList,∃ l,keyOf P kt y.key=some l:=fun y hy=>by
      exact xe5
     have hex:∀ {u:Value},(Instr.lookup t (.map (some g)) k' ok).run P w=.ok u w->(execOp a.eval o).run P w=.ok (.value u) w:=by
      intro u hu;unfold execOp;simp only [ho,hq1,p2,s_b,hu,r_o,s_p]
     split at hx
     ·rename_i y hy;cases hx;obtain ⟨p,hp,hpk,rfl⟩:=SC hy;rcases (hK.1 kt u2).find w f2 ents.toList hkeys with ⟨g1,g2⟩|⟨j,y,g1,g2,g3⟩
      ·exfalso;obtain ⟨z,hz,e1,_⟩:=m2 p hp;exact g2 z hz (e1.trans hpk)
      ·obtain ⟨p2',hp2,e1,e2⟩:=m3 y (l_m g2);have:=Yi m4 hp hp2 (hpk.trans (g3.symm.trans e1));subst this;refine ⟨if ok then .tuple #[y.val,.bool true] else y.val,hex ?_,?_⟩
       ·simp [Instr.lookup,r_u u1,MapKept.run_getObj_map m1,(hK.1 kt u2).check w _ f2,g1,Result.andThen]
       ·cases ok
        ·exact e2
        ·exact .tuple (a:=[p.2,.bool true]) (a':=[y.val,.bool true]) (.cons e2 (.cons (.bool _) .nil))
     ·cases hc:es.all (fun p=>MF p.1 k') with
     |false=>rw [hc] at hx;cases hx
     |true =>
       rw [hc] at hx;simp only [cond_true] at hx;split at hx
       ·rename_i i hi;split at hx
        ·rename_i z hz;cases hf:BM z with
        |false=>rw [hf] at hx;cases hx
        |true =>
          rw [hf] at hx;cases hx;rw [l_t] at hc;rcases (hK.1 kt u2).find w f2 ents.toList hkeys with ⟨g1,g2⟩|⟨j,y,g1,g2,g3⟩
          ·refine ⟨if ok then .tuple #[z,.bool false] else z,hex ?_,?_⟩
           ·have hzv:(zeroValue vt).run P w=.ok z w:=by simp [zeroValue,typeInfo,hi,hz]
            simp [Instr.lookup,r_u u1,MapKept.run_getObj_map m1,(hK.1 kt u2).check w _ f2,g1,Result.andThen,hzv]
           ·cases ok
            ·exact GN hf
            ·exact .tuple (a:=[z,.bool false]) (a':=[z,.bool false]) (.cons (GN hf) (.cons (.bool _) .nil))
          ·exfalso;obtain ⟨p,hp,e1,_⟩:=m3 y (l_m g2);exact Tf (hc p hp) (e1.symm.trans g3)
        ·cases hx
       ·cases hx
   ·cases hx
  ·cases hx
 ·cases hx
end
end Go.Proofs.YtkpbhdhkdonghaaGreat
