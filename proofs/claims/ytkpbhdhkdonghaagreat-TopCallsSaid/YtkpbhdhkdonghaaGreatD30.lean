/-
  Part 30 of the proof.
-/
import Derived.Test.YtkpbhdhkdonghaaGreatD04
import Derived.Test.YtkpbhdhkdonghaaGreatD29
set_option linter.all false
namespace Go.Proofs.YtkpbhdhkdonghaaGreat
open Go Go.RowKit
variable {h':AH} {r:Uu} {b:Bool} {e':En} {Q:Exit->P_} {i:Nat} {u:Value} {w':World}
section
variable {P:Program} {e:En} {h:AH} {w0:Base} {w:World} {a:Act} {o:Oper} {t:Tm} {nt:Nat} {ops:O_} {C:Et}
theorem JC (h:i < SB):i < BIG:=by
 have:SB=1500000:=rfl;show i < 16777216;omega
def DR (e:En) (v:Value) (ds:List Deferred):Prop:=∃ ks:List (Nat × Nat),v=.tuple (ks.map fun k=>Value.map (some k.1)).toArray/\ds=ks.map (fun k=>{ target:=.collected k.2,args:=#[] })/\∀ k ∈ ks,∃ c,e k.1=some (k.2,c)
theorem DR.nil {e:En}:DR e undef []:=⟨[],rfl,rfl,fun k h=>by cases h⟩
theorem DR.mono {e:En} {v:Value} {ds:List Deferred} (he:e.le e') (h:DR e v ds):DR e' v ds:=by
 obtain ⟨ks,h1,h2,h3⟩:=h;exact ⟨ks,h1,h2,fun k hk=>(h3 k hk).imp fun c hc=>he _ _ hc⟩
structure TR (e:En) (t:Tm) (a:Act) (nt:Nat):Prop where
 slots:∀ i,i < SB->VR e (Cc t i) (a.tmps.getD i undef)
 size:a.tmps.size=nt
 small:nt<=1000000
 defers:DR e (Cc t SB) a.defers
theorem TR.big (h:TR e t a nt):nt < BIG:=by
 have:=h.small;show nt < 16777216;omega
theorem TR.mono {e e':En} (he:e.le e') (h:TR e t a nt):TR e' t a nt:=⟨fun i hi=>(h.slots i hi).mono he,h.size,h.small,h.defers.mono he⟩
theorem YW (h:Nat.ble i 1000000=true):i < SB:=by
 have:=n_l h;show i < 1500000;omega
theorem LM (h:TR e t a nt):EvR e (aev t) a:=by
 intro x v hx;cases x with
|tmp i =>
  cases hb:Nat.ble i 1000000 with
 |false =>
   have:aev t (.tmp i)=none:=by simp [aev,cv,hb]
   rw [this] at hx;cases hx
 |true =>
   have:aev t (.tmp i)=some (Cc t i):=by simp [aev,cv,hb,Cc,Tr.get]
   rw [this] at hx;cases hx;exact h.slots i (YW hb)
|const v' =>
  cases hb:BM v' with
 |false =>
   have:aev t (.const v')=none:=by simp [aev,cv,hb]
   rw [this] at hx;cases hx
 |true =>
   have:aev t (.const v')=some v':=by simp [aev,cv,hb]
   rw [this] at hx;cases hx;exact GN hb
|global g=>cases hx
|func f=>cases hx;exact .func (.func f) (a:=[]) (b:=[]) .nil .nil
theorem FP {t:Tm} {d:Nat} {v:Value} (hd:d < BIG) (hi:i < BIG):Cc (t.put d (some v)) i=if i=d then v else Cc t i:=by
 unfold Cc;rw [Tr.get_put _ _ hd hi];split<;>rfl
theorem TR.put (h:TR e t a nt) {d:Nat} {v u:Value} (hd:d < nt) (hv:VR e v u):TR e (t.put d (some v)) (a.put (some d) u) nt:=by
 have hdB:d < BIG:=Nat.lt_trans hd h.big
 have hds:SB ≠ d:=by
  have h1:=h.small;have h2:SB=1500000:=rfl;omega
 refine ⟨fun i hi=>?_,by simp only [Act.put,Array.size_setIfInBounds];exact h.size,h.small,by rw [FP hdB (by decide),if_neg hds];exact h.defers⟩;rw [FP hdB (JC hi)];simp only [Act.put];by_cases hid:i=d
 ·subst hid;rw [if_pos rfl]
  have:(a.tmps.setIfInBounds i u).getD i undef=u:=by
   have:=h.size;simp [show i < a.tmps.size by omega]
  rw [this];exact hv
 ·rw [if_neg hid]
  have:(a.tmps.setIfInBounds d u).getD i undef=a.tmps.getD i undef:=by
   simp [Array.getElem?_setIfInBounds_ne (fun e=>hid e.symm)]
  rw [this];exact h.slots i hi
theorem Uh {t':Tm} {d:Option Tmp} {v:Value} (ht:TR e t a nt) (hv:VR e v u) (hx:gG nt t d v h=some (t',h')):TR e t' (a.put d u) nt/\h'=h:=by
 cases d with
|none=>cases hx;exact ⟨ht,rfl⟩
|some d =>
  have hx':cond (Nat.ble (Nat.succ d) nt) (some (t.put d (some v),h)) none=some (t',h'):=hx;cases hb:Nat.ble (Nat.succ d) nt with
 |false=>rw [hb] at hx';cases hx'
 |true=>rw [hb] at hx';cases hx';exact ⟨ht.put (n_l hb) hv,rfl⟩
theorem DV (ht:∀ d,d ∈ Tt ops o.guard->d < SB->VR e (Cc t d) (a.tmps.getD d undef)) (hx:OB ops t o.guard=some b):Region.wanted o (yielded ops a.tmps)=b:=by
 unfold OB at hx;unfold Region.wanted;split at hx
 ·rename_i hg;rw [hg];cases hx;rfl
 ·rename_i j want hg;rw [hg];simp only;unfold yielded;split at hx
  ·rename_i p hp;split at hx
   ·rename_i d hd;cases hb:Nat.ble d 1000000 with
   |false=>rw [hb] at hx;cases hx
   |true =>
     rw [hb] at hx;cases hx;rw [hp];simp only [Option.bind_some,hd];have hv:=ht d (by rw [hg];simp [Tt,hp,hd]) (YW hb);cases hq:a.tmps[d]? with
    |none =>
      have:a.tmps.getD d undef=undef:=by simp [hq]
      rw [this] at hv;generalize Cc t d=y at hv;unfold undef at hv;cases hv;rfl
    |some u =>
      have:a.tmps.getD d undef=u:=by simp [hq]
      rw [this] at hv;generalize Cc t d=y at hv;cases hv<;>first|rfl|(simp [isB];done)|skip
      all_goals (rename_i b;cases b<;>cases want<;>rfl)
   ·rename_i hd;cases hx;rw [hp];simp [hd]
  ·rename_i hp;cases hx;rw [hp];rfl
structure F8 (P:Program) (C:Et) (w0:Base):Prop where
 keyed:G6 P
 ok:∀ f args h v h',C f args h=some (v,h')->∀ e w args',VRs e args args'->HX e h w0 w ->
  Calls P f args'.toArray w fun x w'=>∃ u e',x=.returned u/\e.le e'/\VR e' v u/\HX e' h' w0 w'
theorem JA {K:P_} (hr:(execOp a.eval o).run P w=.ok (.value u) w'\/((execOp a.eval o).run P w=.ok .skip w'/\u=undef)) (h:K (a.put o.dst u) w'):o.wp P a w K Q:=by
 rcases hr with hr|⟨hr,rfl⟩
 ·unfold Oper.wp;rw [hr];exact h
 ·unfold Oper.wp;rw [hr];exact h
theorem gB {K:P_} (hC:F8 P C w0) {t':Tm} (hr:HX e h w0 w) (hR:Rs P a o w0 w e h r)
  (hx:A2T C nt t o.dst h r=some (t',h'))
  (hK:∀ v u w' e' h2,e.le e'->VR e' v u->HX e' h2 w0 w'->gG nt t o.dst v h2=some (t',h')->K (a.put o.dst u) w'):o.wp P a w K Q:=by
 cases r with
|val v =>
  obtain ⟨u,h1,h2⟩:=hR;exact JA (.inl h1) (hK v u w e h (En.le.refl e) h2 hr hx)
|eff v h2 =>
  obtain ⟨u,w',e',h1,h3,h4,h5⟩:=hR;exact JA h3 (hK v u w' e' h2 h1 h4 h5 hx)
|call f args =>
  obtain ⟨args',h1,h2⟩:=hR;have hx':A1v nt t o.dst (C f args h)=some (t',h'):=hx;cases hc:C f args h with
 |none=>rw [hc] at hx';cases hx'
 |some p =>
   obtain ⟨v,h3⟩:=p;rw [hc] at hx';unfold Oper.wp;rw [h1];show Calls P f args'.toArray w _;refine (hC.ok f args h v h3 hc e w args' h2 hr).mono ?_;rintro x w' ⟨u,e',rfl,a1,a2,a3⟩;exact hK v u w' e' h3 a1 a2 a3 hx'
theorem Qu {K:P_} (hC:F8 P C w0) {t':Tm} (ht:TR e t a nt) (hr:HX e h w0 w) (hx:U7 P C ops nt o t h=some (t',h'))
  (hK:∀ e' a' w',e.le e'->TR e' t' a' nt->HX e' h' w0 w'->K a' w'):if Region.wanted o (yielded ops a.tmps) then o.wp P a w K Q else K (a.put o.dst undef) w:=by
 unfold U7 at hx;cases hw:OB ops t o.guard with
|none=>rw [hw] at hx;cases hx
|some b =>
  rw [hw] at hx;rw [DV (fun d _ hd=>ht.slots d hd) hw];cases b with
 |false =>
   have hx':gG nt t o.dst undef h=some (t',h'):=hx;obtain ⟨h1,rfl⟩:=Uh ht .undef hx';exact hK e _ w (En.le.refl e) h1 hr
 |true =>
   simp only [if_true];have hx':Option.rec (motive:=fun _=>Option (Tm × AH)) none (fun r=>A2T C nt t o.dst h r) (aop P (aev t) o.op h)=some (t',h'):=hx;cases ha:aop P (aev t) o.op h with
  |none=>rw [ha] at hx';cases hx'
  |some r =>
    rw [ha] at hx';refine gB hC hr (EP hC.keyed (LM ht) hr ha) hx' ?_;intro v u w' e' h2 h1 h3 h4 h5;obtain ⟨h6,rfl⟩:=Uh (ht.mono h1) h3 h5;exact hK e' _ w' h1 h6 h4
theorem VZ {Q:Exit->P_} (hC:F8 P C w0):∀ (l:Q_) (t:Tm) (h:AH) (t':Tm) (h':AH),fU P C ops nt l t h=some (t',h')->∀ e a w,TR e t a nt->HX e h w0 w ->
  (∀ e' a' w',e.le e'->TR e' t' a' nt->HX e' h' w0 w'->Q .normal a' w')->wpList P ops Q l a w
|[],t,h,t',h',hx,e,a,w,ht,hr,hQ=>by
  cases hx;exact wpList_nil (hQ e a w (En.le.refl e) ht hr)
|o::l,t,h,t',h',hx,e,a,w,ht,hr,hQ=>by
  have hx':Option.rec (motive:=fun _=>Option (Tm × AH)) none (fun p=>Prod.rec (motive:=fun _=>Option (Tm × AH)) (fun t2 h2=>fU P C ops nt l t2 h2) p) (U7 P C ops nt o t h)=some (t',h'):=hx;cases hs:U7 P C ops nt o t h with
 |none=>rw [hs] at hx';cases hx'
 |some p =>
   obtain ⟨t2,h2⟩:=p;rw [hs] at hx';refine wpList_step fun K hK=>Qu hC ht hr hs ?_;intro e' a' w' h1 h3 h4;exact hK _ _ (VZ hC l t2 h2 t' h' hx' e' a' w' h3 h4 fun e2 a2 w2 q1 q2 q3=>hQ e2 a2 w2 (h1.trans q1) q2 q3)
end
variable {h':AH} {L:Array Bool} {b:Bool} {i j k:Nat}
section
variable {P:Program} {e:En} {h:AH} {w0:Base} {w:World} {a:Act} {o:Oper} {t:Tm} {nt:Nat} {ops:O_} {C:Et}
theorem PW {α:Type} {p:Nat->α->Bool} {y:α} {l:List α}:allI p (y::l) k=(p k y && allI p l (k+1)):=by
 show cond (p k y) (allI p l (Nat.add k 1)) false=_;cases p k y<;>rfl
theorem Jt {α:Type} {p:Nat->α->Bool}:∀ (l:List α) (k:Nat),allI p l k=true->∀ i x,l[i]?=some x->p (k+i) x=true
|[],k,h,i,x,hx=>by simp at hx
|y::l,k,h,0,x,hx=>by
  simp only [List.getElem?_cons_zero,Option.some.injEq] at hx;subst hx;rw [PW,b_t] at h;exact h.1
|y::l,k,h,i+1,x,hx=>by
  rw [PW,b_t] at h;have:=Jt l _ h.2 i x (by simpa using hx);rw [show k+1+i=k+(i+1) by omega] at this;exact this
theorem jy (M:N_) (i:Nat):wC M i=M.getD i 0:=by
 unfold wC;rw [DL,List.getD_eq_getElem?_getD];cases M[i]?<;>rfl
theorem ZM (M:N_) (i j:Nat):Fp M i j=(M.getD i 0).testBit j:=by
 unfold Fp;rw [jy,Nat.testBit_eq_decide_div_mod_eq]
 have h1:Nat.land (Nat.shiftRight (M.getD i 0) j) 1=(M.getD i 0) / 2 ^ j % 2:=by
  have e1:Nat.shiftRight (M.getD i 0) j=(M.getD i 0) / 2 ^ j:=Nat.shiftRight_eq_div_pow _ _;rw [e1];exact Nat.and_one_is_mod _
 rw [h1];rcases Nat.mod_two_eq_zero_or_one ((M.getD i 0) / 2 ^ j) with h|h<;>rw [h]<;>rfl
theorem YE (acc:N_):∀ es:List Edge,YF acc es=Nv acc es
|[]=>rfl
|e::es=>by
  show cond (Region.binds .any e) (Nat.lor (YF acc es) (Nat.lor (Nat.pow 2 e.on) (wC acc e.on))) (YF acc es)=cond (Region.binds .any e) (Nat.lor (Nv acc es) (Nat.lor (Nat.pow 2 e.on) (acc.getD e.on 0))) (Nv acc es);rw [YE acc es,jy]
theorem QT:∀ (l:Q_) (acc:N_),uO l acc=mks l acc
|[],_=>rfl
|o::l,acc=>by
  show uO l (app acc [YF acc o.after.toList])=mks l (acc++[Nv acc o.after.toList]);rw [QT l,Gs,YE]
theorem Sz {acc:N_}:∀ (es:List Edge) (j:Nat),(Nv acc es).testBit j=true->∃ ed ∈ es,Region.binds .any ed=true/\(ed.on=j\/(acc.getD ed.on 0).testBit j=true)
|[],j,h=>by simp [Nv] at h
|ed::es,j,h=>by
  unfold Nv at h;cases hb:Region.binds .any ed with
 |false =>
   rw [hb] at h;obtain ⟨x,h1,h2⟩:=Sz es j h;exact ⟨x,by simp [h1],h2⟩
 |true =>
   rw [hb] at h;have h':((Nv acc es) ||| ((2 ^ ed.on) ||| (acc.getD ed.on 0))).testBit j=true:=h;rw [Nat.testBit_or,Nat.testBit_or,Bool.or_eq_true,Bool.or_eq_true] at h';rcases h' with h'|h'|h'
   ·obtain ⟨x,h1,h2⟩:=Sz es j h';exact ⟨x,by simp [h1],h2⟩
   ·exact ⟨ed,by simp,hb,.inl (by rw [Nat.testBit_two_pow] at h';simpa using h')⟩
   ·exact ⟨ed,by simp,hb,.inr h'⟩
theorem iY:∀ (l:Q_) (acc:N_),∃ r,mks l acc=acc++r/\r.length=l.length/\∀ k o,l[k]?=some o->(mks l acc)[acc.length+k]?=some (Nv ((mks l acc).take (acc.length+k)) o.after.toList)
|[],acc=>⟨[],by simp [mks],rfl,fun k o h=>by simp at h⟩
|o::l,acc=>by
  obtain ⟨r,h1,h2,h3⟩:=iY l (acc++[Nv acc o.after.toList]);have hm:mks (o::l) acc=mks l (acc++[Nv acc o.after.toList]):=rfl;rw [hm];refine ⟨Nv acc o.after.toList::r,by rw [h1];simp,by simp [h2],fun k o' hk=>?_⟩;cases k with
 |zero =>
   simp only [List.getElem?_cons_zero,Option.some.injEq] at hk;subst hk;rw [h1];simp
 |succ k =>
   have:=h3 k o' (by simpa using hk);rw [List.length_append,List.length_singleton,show acc.length+1+k=acc.length+(k+1) by omega] at this;exact this
theorem oz (ho:ops.toList[i]?=some o) (hb:Fp (mks ops.toList []) i j=true):∃ ed ∈ o.after.toList,Region.binds .any ed=true/\(ed.on=j\/(ed.on < i/\Fp (mks ops.toList []) ed.on j=true)):=by
 obtain ⟨r,h1,h2,h3⟩:=iY ops.toList [];have h4:=h3 i o ho;simp only [List.length_nil,Nat.zero_add] at h4;rw [ZM] at hb;rw [List.getD_eq_getElem?_getD,h4] at hb;obtain ⟨ed,h5,h6,h7⟩:=Sz _ _ hb;refine ⟨ed,h5,h6,h7.imp id fun h8=>?_⟩;by_cases hlt:ed.on < i
 ·refine ⟨hlt,?_⟩;rw [ZM];rw [List.getD_eq_getElem?_getD] at h8 ⊢;rwa [List.getElem?_take_of_lt hlt] at h8
 ·rw [List.getD_eq_getElem?_getD,List.getElem?_take_eq_none (by omega)] at h8;simp at h8
def Down (ops:O_) (L:Array Bool):Prop:=∀ i o,ops.toList[i]?=some o->L.getD i false=true->∀ ed ∈ o.after.toList,Region.binds .any ed=true->L.getD ed.on false=true
theorem wE (h:L.getD i false=true):i < L.size:=by
 rcases Nat.lt_or_ge i L.size with h1|h1
 ·exact h1
 ·simp [Array.getElem?_eq_none h1] at h
theorem Gx (hs:L.size=ops.size) (hd:Down ops L):∀ (i:Nat) {j:Nat} {o:Oper},ops.toList[i]?=some o->(∀ ed ∈ o.after.toList,Region.binds .any ed=true->L.getD ed.on false=true)->Fp (mks ops.toList []) i j=true->L.getD j false=true:=by
 intro i
 induction i using Nat.strongRecOn with
|_ i ih =>
  intro j o ho hdeps hb;obtain ⟨ed,h1,h2,h3⟩:=oz ho hb;have h4:=hdeps ed h1 h2;rcases h3 with rfl|⟨h5,h6⟩
  ·exact h4
  ·have hlt:=wE h4;have hlt':ed.on < ops.toList.length:=by rw [Array.length_toList,<- hs];exact hlt
   exact ih ed.on h5 (l_e hlt') (fun ed' h7 h8=>hd ed.on _ (l_e hlt') h4 ed' h7 h8) h6
theorem GU (l:Q_):Bf l 0=0:=by cases l<;>rfl
theorem FC (o:Oper) (l:Q_) (n:Nat):Bf (o::l) (n+1)=Bf l n+(if Bc o.op then 1 else 0):=by
 show cond (Bc o.op) (Bf l n+1) (Bf l n)=_;cases Bc o.op<;>simp
theorem J3:∀ (l:Q_) (i:Nat) (o:Oper),l[i]?=some o->Bf l (i+1)=Bf l i+(if Bc o.op then 1 else 0)
|[],i,o,h=>by simp at h
|o'::l,0,o,h=>by
  simp only [List.getElem?_cons_zero,Option.some.injEq] at h;subst h;rw [FC,GU,GU]
|o'::l,i+1,o,h=>by
  rw [FC,FC,J3 l i o (by simpa using h)];omega
theorem ZC (l:Q_) (h:i<=j) (hj:j<=l.length):Bf l i<=Bf l j:=by
 induction j with
|zero=>obtain rfl:i=0:=(by omega);exact Nat.le_refl _
|succ j ih =>
  rcases Nat.lt_or_ge i (j+1) with h1|h1
  ·have:=ih (by omega) (by omega);rw [J3 l j l[j] (l_e (by omega))];omega
  ·obtain rfl:i=j+1:=by omega
   exact Nat.le_refl _
theorem VL (l:Q_) {o:Oper} (ho:l[i]?=some o) (he:Bc o.op=true) (h:i < j) (hj:j<=l.length):Bf l i < Bf l j:=by
 have h1:=J3 l i o ho;rw [he] at h1;have h2:=ZC l (show i+1<=j by omega) hj;simp at h1;omega
theorem GV (l:Q_) {p:Nat}:∀ (i:Nat),i<=l.length->p < Bf l i->∃ j o,j < i/\l[j]?=some o/\Bc o.op=true/\Bf l j=p
|0,_,h=>by rw [GU] at h;omega
|i+1,hi,h=>by
  have hg:=l_e (show i < l.length by omega);have h1:=J3 l i _ hg;rcases Nat.lt_or_ge p (Bf l i) with h2|h2
  ·obtain ⟨j,o,h3,h4⟩:=GV l i (by omega) h2;exact ⟨j,o,by omega,h4⟩
  ·cases he:Bc (l[i]).op with
  |false=>rw [he] at h1;simp at h1;omega
  |true=>rw [he] at h1;simp at h1;exact ⟨i,_,by omega,hg,he,by omega⟩
theorem LG {d:Option Tmp} {v:Value} {t':Tm} (hx:UW nt t d v=some t'):(d=none/\t'=t)\/∃ s,d=some s/\s < nt/\t'=t.put s (some v):=by
 unfold UW at hx;split at hx
 ·cases hx;exact .inl ⟨rfl,rfl⟩
 ·rename_i s;cases hb:Nat.ble (Nat.succ s) nt with
 |false=>rw [hb] at hx;cases hx
 |true=>rw [hb] at hx;cases hx;exact .inr ⟨s,rfl,n_l hb,rfl⟩
theorem Xp {v:Value} (hx:GZ P C ops o t h=some (b,v,h')) (he:Bc o.op=false):h'=h:=by
 unfold GZ at hx;split at hx
 ·cases hx;rfl
 ·unfold jH at hx;rw [he] at hx;split at hx
  ·rename_i x y hd;cases hx;split at hd
   ·cases hd;rfl
   ·cases hd
   ·cases hd
   ·cases hd
  ·cases hx
 ·cases hx
theorem Zu:∀ (l:Q_) (t:Tm) (h:AH),jD P C ops nt l t h=wR P C ops nt l t h
|[],_,_=>rfl
|o::l,t,h=>by
  have h0:jD P C ops nt (o::l) t h=Option.rec (motive:=fun _=>Option (List CZ × List AH × Tm)) none
   (fun p=>Prod.rec (motive:=fun _=>Option (List CZ × List AH × Tm)) (fun b q=>Prod.rec (motive:=fun _=>Option (List CZ × List AH × Tm)) (fun v h' =>
    Option.rec (motive:=fun _=>Option (List CZ × List AH × Tm)) none (fun t'=>jG ⟨t,b,v⟩ (Bc o.op) h' (jD P C ops nt l t' (cond (Bc o.op) h' h))) (UW nt t o.dst v)) q) p)
   (GZ P C ops o t h):=rfl
  rw [h0];unfold wR;cases GZ P C ops o t h with
 |none=>rfl
 |some p =>
   obtain ⟨b,v,h'⟩:=p;simp only;cases UW nt t o.dst v with
  |none=>rfl
  |some t'=>simp only [Zu l]
theorem TK (hnt:nt < BIG):∀ (l:Q_) (t:Tm) (h:AH) (rs:List CZ) (hs:List AH) (tf:Tm),wR P C ops nt l t h=some (rs,hs,tf) ->
  rs.length=l.length/\hs.length=Bf l l.length /\
  (∀ (i:Nat) (o:Oper),l[i]?=some o->∃ (r:CZ) (hi hi':AH),rs[i]?=some r/\(h::hs)[Bf l i]?=some hi/\GZ P C ops o r.t hi=some (r.want,r.v,hi')/\(Bc o.op=true->(h::hs)[Bf l i+1]?=some hi')/\∀ d,o.dst=some d->d < nt) /\
  (∀ (i:Nat) (r:CZ),rs[i]?=some r->∀ s,s < BIG->(∃ (j:Nat) (o':Oper) (r':CZ),j < i/\l[j]?=some o'/\rs[j]?=some r'/\o'.dst=some s/\Cc r.t s=r'.v)\/((∀ (j:Nat) (o':Oper),j < i->l[j]?=some o'->o'.dst ≠ some s)/\Cc r.t s=Cc t s)) /\
  (∀ s,s < BIG->(∃ (j:Nat) (o':Oper) (r':CZ),l[j]?=some o'/\rs[j]?=some r'/\o'.dst=some s/\Cc tf s=r'.v)\/((∀ (j:Nat) (o':Oper),l[j]?=some o'->o'.dst ≠ some s)/\Cc tf s=Cc t s))
|[],t,h,rs,hs,tf,hx=>by
  cases hx;exact ⟨rfl,rfl,fun i o ho=>by simp at ho,fun i r hr=>by simp at hr,fun s _=>.inr ⟨fun j o ho=>by simp at ho,rfl⟩⟩
|o::l,t,h,rs,hs,tf,hx=>by
  unfold wR at hx;split at hx
  ·rename_i b v h' hstep;split at hx
   ·rename_i t' hput;unfold jG at hx;split at hx
    ·rename_i rs' hs' tf' hrec;cases hx;obtain ⟨a1,a2,a3,a4,a5⟩:=TK hnt l t' _ rs' hs' tf hrec;have hH:(cond (Bc o.op) h' h::hs')[0]?=some (cond (Bc o.op) h' h):=rfl;have hkeep:Bc o.op=false->h'=h:=Xp hstep
     have htail:∀ (n:Nat) (x:AH),(cond (Bc o.op) h' h::hs')[n]?=some x->(h::cond (Bc o.op) (h'::hs') hs')[n+(if Bc o.op then 1 else 0)]?=some x:=by
      intro n x hn;cases he:Bc o.op with
     |true=>rw [he] at hn;simpa using hn
     |false=>rw [he] at hn;simpa using hn
     have hslot:∀ s,s < BIG->(o.dst=some s/\Cc t' s=v)\/(o.dst ≠ some s/\Cc t' s=Cc t s):=by
      intro s hs;rcases LG hput with ⟨h1,rfl⟩|⟨d,h1,h2,rfl⟩
      ·exact .inr ⟨by rw [h1];simp,rfl⟩
      ·rw [FP (Nat.lt_trans h2 hnt) hs];by_cases hsd:s=d
       ·subst hsd;exact .inl ⟨h1,by simp⟩
       ·exact .inr ⟨by rw [h1];simp;exact fun e=>hsd e.symm,by simp [hsd]⟩
     refine ⟨by simp [a1],?_,?_,?_,?_⟩
     ·rw [List.length_cons,FC];cases he:Bc o.op with
     |true=>simp [a2]
     |false=>simp [a2]
     ·intro i o2 ho2;cases i with
     |zero =>
       simp only [List.getElem?_cons_zero,Option.some.injEq] at ho2;subst ho2;refine ⟨_,h,h',rfl,by rw [GU];rfl,hstep,fun he=>?_,fun d hd=>?_⟩
       ·rw [GU];rw [he];rfl
       ·rcases LG hput with ⟨h1,_⟩|⟨d',h1,h2,_⟩
        ·rw [h1] at hd;cases hd
        ·rw [h1] at hd;cases hd;exact h2
     |succ i =>
       obtain ⟨r,hi,hi',b1,b2,b3,b4,b5⟩:=a3 i o2 (by simpa using ho2);refine ⟨r,hi,hi',by simpa using b1,?_,b3,fun he=>?_,b5⟩
       ·rw [FC];exact htail _ _ b2
       ·have:=htail _ _ (b4 he);rw [FC];rw [show Bf l i+(if Bc o.op=true then 1 else 0)+1=Bf l i+1+(if Bc o.op=true then 1 else 0) by omega];exact this
     ·intro i r hr s hs;cases i with
     |zero =>
       simp only [List.getElem?_cons_zero,Option.some.injEq] at hr;subst hr;exact .inr ⟨fun j o' hj=>by omega,rfl⟩
     |succ i =>
       rcases a4 i r (by simpa using hr) s hs with ⟨j,o',r',c1,c2,c3,c4,c5⟩|⟨c1,c2⟩
       ·exact .inl ⟨j+1,o',r',by omega,by simpa using c2,by simpa using c3,c4,c5⟩
       ·rcases hslot s hs with ⟨d1,d2⟩|⟨d1,d2⟩
        ·exact .inl ⟨0,o,_,by omega,rfl,rfl,d1,c2.trans d2⟩
        ·refine .inr ⟨fun j o' hj ho'=>?_,c2.trans d2⟩;cases j with
        |zero=>simp only [List.getElem?_cons_zero,Option.some.injEq] at ho';subst ho';exact d1
        |succ j=>exact c1 j o' (by omega) (by simpa using ho')
     ·intro s hs;rcases a5 s hs with ⟨j,o',r',c2,c3,c4,c5⟩|⟨c1,c2⟩
      ·exact .inl ⟨j+1,o',r',by simpa using c2,by simpa using c3,c4,c5⟩
      ·rcases hslot s hs with ⟨d1,d2⟩|⟨d1,d2⟩
       ·exact .inl ⟨0,o,_,rfl,rfl,d1,c2.trans d2⟩
       ·refine .inr ⟨fun j o' ho'=>?_,c2.trans d2⟩;cases j with
       |zero=>simp only [List.getElem?_cons_zero,Option.some.injEq] at ho';subst ho';exact d1
       |succ j=>exact c1 j o' (by simpa using ho')
    ·cases hx
   ·cases hx
  ·cases hx
theorem Vw:∀ (h:AH) (hs:List AH),(h::hs)[hs.length]?=some (lastH h hs)
|h,[]=>rfl
|h,g::hs=>by
  have:=Vw g hs;simpa [lastH] using this
end
variable {h' h1:AH} {L:Array Bool} {e1:En} {Q:Exit->P_} {l:Q_} {z:L_} {g i id j k n q s:Nat} {op:Op} {o':Oper} {tq:TypeId} {b u:Value} {w':World}
def Base.with (w0:Base) {w:World} (h0:Held w0 w) (F:Nat->Prop) (hF:∀ g,F g->g < w.heap.size):Base :=
 ⟨w,fun g=>w0.K g\/F g,fun g hg=>hg.elim (fun hk=>Nat.lt_of_lt_of_le (w0.lt g hk) h0.size) (hF g)⟩
theorem HX.guard {e:En} {h:AH} {w0:Base} {w:World} (hr:HX e h w0 w) {F:Nat->Prop} (hF:∀ g,F g->g < w.heap.size) (hn:∀ k o g c,k < BIG->h.t.get k=some o->e k=some (g,c)->¬ F g):HX e h (w0.with hr.below F hF) w:=by
 refine ⟨Held.refl (w0.with hr.below F hF),hr.small,hr.dom,fun k o hk ho=>?_,hr.inj⟩;obtain ⟨g,c,q1,q2,q3⟩:=hr.live k o hk ho;exact ⟨g,c,q1,fun h=>h.elim q2 (hn k o g c hk ho q1),q3⟩
theorem HX.NR {e:En} {h:AH} {w0:Base} {w:World} (hr:HX e h w0 w) {F:Nat->Prop} {hF:∀ g,F g->g < w.heap.size} (h2:HX e1 h1 (w0.with hr.below F hF) w'):HX e1 h1 w0 w'/\∀ g,F g->w'.heap[g]?=w.heap[g]?:=by
 refine ⟨⟨⟨h2.below.os.trans hr.below.os,h2.below.tape.trans hr.below.tape,h2.below.output.trans hr.below.output,Nat.le_trans hr.below.size h2.below.size,fun k hk=>(h2.below.block k (.inl hk)).trans (hr.below.block k hk)⟩,h2.small,h2.dom,fun k o hk ho=>?_,h2.inj⟩,fun g hg=>h2.below.block g (.inr hg)⟩;obtain ⟨g,c,q1,q2,q3⟩:=h2.live k o hk ho;exact ⟨g,c,q1,fun h=>q2 (.inl h),q3⟩
section
variable {P:Program} {e:En} {h:AH} {w0:Base} {w:World} {a:Act} {o:Oper} {t:Tm} {nt:Nat} {ops:O_} {C:Et}
theorem jZ {α:Type} {p:Nat->α->Bool}:∀ (l:List α) (k:Nat),(∀ i x,l[i]?=some x->p (k+i) x=true)->allI p l k=true
|[],k,h=>rfl
|y::l,k,h=>by
  rw [PW,b_t];refine ⟨h 0 y rfl,jZ l _ fun i x hx=>?_⟩;have:=h (i+1) x (by simpa using hx);rw [show k+1+i=k+(i+1) by omega];exact this
theorem Za {l:N_} (h:n ∈ l):PE l n=true:=by
 induction l with
|nil=>cases h
|cons m l ih =>
  show cond (Nat.beq m n) true (PE l n)=true;rcases List.mem_cons.1 h with rfl|h
  ·rw [Nat.beq_refl];rfl
  ·rw [ih h];cases Nat.beq m n<;>rfl
theorem QO {a b:Option Addr} (h:lU a b=true):a=b:=by
 unfold lU at h;split at h
 ·rfl
 ·rw [b_t] at h;rw [n_q h.1,n_q h.2]
 ·cases h
theorem gY {a:Value} (h:zf a b=true):a=b:=by
 unfold zf at h;split at h
 ·rw [b_t] at h;rw [Io h.1,of_decide_eq_true h.2]
 ·rw [eq_of_beq h]
 ·rw [QO h]
 ·simp only [b_t] at h;rw [QO h.1.1,n_q h.1.2,n_q h.2]
 ·rfl
 ·rw [b_t] at h;rw [n_q h.1,QO h.2]
 ·rw [n_q h]
 ·rfl
 ·rename_i f x y g c d;rw [b_t] at h;have h1:=n_q h.1;subst h1;have h2:=h.2;split at h2
  ·rename_i e1 e2 e3 e4;have:x=c:=Array.ext' (by rw [e1,e2]);have:y=d:=Array.ext' (by rw [e3,e4]);simp [*]
  ·rename_i u v e1 e2 e3 e4;have h3:=QO h2;subst h3;have:x=c:=Array.ext' (by rw [e1,e2]);have:y=d:=Array.ext' (by rw [e3,e4]);simp [*]
  ·cases h2
 ·cases h
theorem Gw:∀ {a b:L_},Ky a b=true->a=b
|[],[],_=>rfl
|a::l,b::m,h=>by
  unfold Ky at h;rw [b_t] at h;rw [gY h.1,Gw h.2]
|[],_::_,h=>by cases h
|_::_,[],h=>by cases h
theorem qF {a:Value} (h:veq a b=true):a=b:=by
 unfold veq at h;split at h
 ·have:=Gw h
  congr 1
  exact Array.ext' this
 ·exact gY h
theorem VK {ns:N_} {op:Op} {r:CZ} {poss:Nat->Bool}:∀ (hs:List AH) (k:Nat),ZA P ns op r poss hs k=true->∀ p hp,hs[p]?=some hp->poss (k+p)=true->aop P (IC ns r.t) op hp=some (.val r.v)
|[],k,h,p,hp,hg,_=>by simp at hg
|g::hs,k,h,p,hp,hg,hpo=>by
  unfold ZA at h;rw [b_t] at h;cases p with
 |zero =>
   simp only [List.getElem?_cons_zero,Option.some.injEq] at hg;subst hg;have h1:=h.1;rw [show poss k=true from hpo] at h1;simp only [cond_true] at h1;split at h1
   ·rename_i v hv;rw [hv,qF h1]
   ·cases h1
 |succ p =>
   refine VK hs _ h.2 p hp (by simpa using hg) ?_;rw [show Nat.add k 1+p=k+(p+1) by show k+1+p=_;omega];exact hpo
theorem Zz {l:Q_} {M:N_} {hs:List AH}:∀ (m:Q_) (rs:List CZ) (k:Nat),wS P ops l M hs m rs k=true->∀ i o r,m[i]?=some o->rs[i]?=some r->Pz o.op=true->r.want=true->ZA P (Dh ops o) o.op r (sO l M (k+i)) hs 0=true
|[],rs,k,h,i,o,r,ho,_,_,_=>by simp at ho
|_::_,[],k,h,_,_,_,_,hr,_,_=>by simp at hr
|o'::m,r'::rs,k,h,i,o,r,ho,hr,h1,h2=>by
  unfold wS at h;rw [b_t] at h;cases i with
 |zero =>
   simp only [List.getElem?_cons_zero,Option.some.injEq] at ho hr;subst ho hr;have h3:=h.1;rw [h1,h2] at h3;exact h3
 |succ i =>
   have:=Zz m rs _ h.2 i o r (by simpa using ho) (by simpa using hr) h1 h2;rw [show Nat.add k 1+i=k+(i+1) by show k+1+i=_;omega] at this;exact this
theorem W9 {ev:Ev} (h1:Bc op=false) (h2:Pz op=false) (h h':AH):aop P ev op h=aop P ev op h':=by
 cases op
 case call c =>
  show O4 P ev c h=O4 P ev c h';unfold O4;split
  ·unfold Bc at h1;simp only at h1;split at h1
   ·rename_i hc;exfalso;unfold Pz at h2;simp only [hc] at h2;cases h2
   ·rename_i hc;rw [hc];rfl
   ·rename_i hc;rw [hc];rfl
   ·cases h1
  ·rfl
 case convert s d x =>
  have h1':Nat.beq s d=false:=h1;have h2':(not (Nat.beq s d))=false:=h2;rw [h1'] at h2';cases h2'
 case makeMap t r=>cases h1
 all_goals first|rfl|(cases h2;done)|(cases h1;done)
theorem HX.drawn {n:Nat} (hr:HX e h w0 w):HX e h w0 { w with drawn:=n } :=
 ⟨⟨hr.below.os,hr.below.tape,hr.below.output,hr.below.size,hr.below.block⟩,hr.small,hr.dom,fun k o hk ho=>by
  obtain ⟨g,c,h1,h2,h3⟩:=hr.live k o hk ho
  exact ⟨g,c,h1,h2,h3.block rfl⟩,hr.inj⟩
theorem Uf {ns:N_} (ht:∀ s,s < SB->PE ns s=true->VR e (Cc t s) (a.tmps.getD s undef)):EvR e (IC ns t) a:=by
 intro x v hx;cases x with
|tmp i =>
  have hx':cond (PE ns i) (aev t (.tmp i)) none=some v:=hx;cases hb:PE ns i with
 |false=>rw [hb] at hx';cases hx'
 |true =>
   rw [hb] at hx';cases hc:Nat.ble i 1000000 with
  |false =>
    have:aev t (.tmp i)=none:=by simp [aev,cv,hc]
    simp only [cond_true,this] at hx';cases hx'
  |true =>
    have:aev t (.tmp i)=some (Cc t i):=by simp [aev,cv,hc,Cc,Tr.get]
    simp only [cond_true,this] at hx';cases hx';exact ht i (YW hc) hb
|const v' =>
  cases hb:BM v' with
 |false =>
   have:IC ns t (.const v')=none:=by simp [IC,aev,cv,hb]
   rw [this] at hx;cases hx
 |true =>
   have:IC ns t (.const v')=some v':=by simp [IC,aev,cv,hb]
   rw [this] at hx;cases hx;exact GN hb
|global g=>cases hx
|func f=>cases hx;exact .func (.func f) (a:=[]) (b:=[]) .nil .nil
theorem Ze (hi:i < L.size):(L.setIfInBounds i true).getD j false=if j=i then true else L.getD j false:=by
 by_cases h:j=i
 ·subst h;rw [if_pos rfl];exact ED hi
 ·rw [if_neg h];simp [Array.getElem?_setIfInBounds_ne (fun e=>h e.symm)]
theorem NY {d:Option Tmp} (hd:∀ x,d=some x->x < a.tmps.size):(a.put d u).tmps.getD s undef=if d=some s then u else a.tmps.getD s undef:=by
 cases d with
|none=>rfl
|some x =>
  have hx:=hd x rfl;simp only [Act.put];by_cases h:x=s
  ·subst h;rw [if_pos rfl];simp [hx]
  ·rw [if_neg (by simpa using h)];simp [Array.getElem?_setIfInBounds_ne h]
theorem NW {d:Option Tmp}:(a.put d u).tmps.size=a.tmps.size:=by
 cases d<;>simp [Act.put]
theorem put_defers {d:Option Tmp}:(a.put d u).defers=a.defers:=by
 cases d<;>rfl
theorem HX.adopt (hr:HX e h w0 w) {o:AO} (hnew:h.new o=some (k,h')) {c:Nat × Nat} (hg:¬ w0.K g) (hfree:∀ k o c,k < BIG->h.t.get k=some o->e k ≠ some (g,c)) (hn:OR (e.add h.n g c) w g c o):k=h.n/\e.le (e.add h.n g c)/\HX (e.add h.n g c) h' w0 w:=by
 obtain ⟨rfl,rfl,hb⟩:=AH.KH hnew;refine ⟨rfl,En.JK hr.fresh,hr.next (En.JK hr.fresh) (World.grownBy.refl w none) (fun g e=>by cases e) hb (hr.Xr g c) ?_⟩;intro k1 o1 hk1 h1;simp only [Tr.get_put _ _ (Nat.lt_of_succ_lt hb) hk1] at h1;by_cases hkk:k1=h.n
 ·subst hkk;rw [if_pos rfl] at h1;cases h1;refine .inr ⟨g,c,En.EG,hg,hn,?_⟩;intro k2 o2 hk2 hne h2 c2 e2;simp only [Tr.get_put _ _ hk1 hk2,if_neg hne] at h2;simp only [En.add,if_neg hne] at e2;exact hfree k2 o2 c2 hk2 h2 e2
 ·rw [if_neg hkk] at h1;exact .inl ⟨h1,fun g1 c1 _ e2=>by cases e2⟩
theorem HX.more (hr:HX e h w0 w) (hg:w.grownBy w' none):HX e h w0 w' :=
 hr.next (En.le.refl e) hg (fun g e=>by cases e) hr.small hr.dom (fun k o hk ho=>.inl ⟨ho,fun _ _ _ h=>by cases h⟩)
theorem PK (h:JR o=true):∃ t,o.op=.alloc t/\o.guard=none:=by
 unfold JR at h;split at h
 ·rename_i t h1 h2;exact ⟨t,h1,h2⟩
 ·cases h
theorem eG (h:JR o=true):Bc o.op=true:=by
 obtain ⟨t,h1,_⟩:=PK h;rw [h1];rfl
theorem Qp {b:Bool} {v:Value} (ho:JR o=true) (hx:GZ P C ops o t h=some (b,v,h')):∃ tq z k,o.op=.alloc tq/\G8 P tq=some z/\h.new (mkRow z)=some (k,h')/\v=.pointer (some ⟨k,0,none⟩):=by
 obtain ⟨tq,h1,h2⟩:=PK ho;unfold GZ at hx;rw [h2] at hx;have hw:OB ops t none=some true:=rfl;rw [hw] at hx;simp only at hx;split at hx
 ·rename_i v1 h3 hd;cases hx;unfold jH at hd;rw [h1] at hd;have ha:aop P (IC (Dh ops o) t) (.alloc tq) h=Sm P tq h:=rfl;rw [ha] at hd;unfold Sm at hd;cases hz:G8 P tq with
 |none=>rw [hz] at hd;cases hd
 |some z =>
   rw [hz] at hd;simp only at hd;unfold tV at hd;cases hn:h.new (mkRow z) with
  |none=>rw [hn] at hd;cases hd
  |some x =>
    obtain ⟨k,h2⟩:=x;rw [hn] at hd;cases hd;exact ⟨tq,z,k,h1,hz,hn,rfl⟩
 ·cases hx
theorem oH (ho:o.op=.alloc tq) (hz:G8 P tq=some z):(execOp a.eval o).run P w=.ok (.value (.pointer (some ⟨w.heap.size,0,none⟩))) (w.alloc (.cells z.toArray tq)):=by
 obtain ⟨v,h1,h2⟩:=V5 hz w;have h3:z.toArray=v.cells:=by rw [<- h2]
 rw [h3];unfold execOp;simp only [ho,Instr.alloc,newVar,newRow,s_b,s_p,h1,r_o];rfl
def A10 (P:Program) (ops:O_) (q b p:Nat) (e1:En) (hp:AH) (w0:Base) (w:World) (L:Array Bool) (g:Nat):Prop :=
 p < Bf ops.toList q+b/\L.getD q false=true/\g < w.heap.size/\¬ w0.K g/\(∀ k o c,k < BIG->hp.t.get k=some o->e1 k ≠ some (g,c))/\∃ oq tq z,ops.toList[q]?=some oq/\oq.op=.alloc tq/\G8 P tq=some z/\w.heap[g]?=some (.cells z.toArray tq)
def A11 (D0:List Deferred) (P:Program) (ops:O_) (q nt:Nat) (rs:List CZ) (hs:List AH) (t:Tm) (h:AH) (e:En) (w0:Base) (b:Nat) (L:Array Bool) (a:Act) (w:World):Prop :=
 Down ops L/\∃ (e1:En) (p:Nat) (hp:AH) (y:Option Nat),e.le e1/\p<=hs.length/\(h::hs)[p]?=some hp/\HX e1 hp w0 w/\(∀ g,y=some g->A10 P ops q b p e1 hp w0 w L g) /\
 (∀ (i:Nat) (o:Oper),ops.toList[i]?=some o->Bc o.op=true->(i=q->y=none)->(L.getD i false=true ↔ Bf ops.toList i < p)) /\
 (∀ s,s < SB->(∃ (j:Nat) (o:Oper) (r:CZ),ops.toList[j]?=some o/\rs[j]?=some r/\o.dst=some s/\L.getD j false=true/\VR e1 r.v (a.tmps.getD s undef))\/((∀ (j:Nat) (o:Oper),ops.toList[j]?=some o->o.dst=some s->L.getD j false=false)/\VR e1 (Cc t s) (a.tmps.getD s undef))\/∃ g oq,y=some g/\ops.toList[q]?=some oq/\oq.dst=some s/\a.tmps.getD s undef=.pointer (some ⟨g,0,none⟩))/\a.tmps.size=nt/\a.defers=D0
theorem TP {o:Oper} (ho:l[i]?=some o) (he:Bc o.op=true) (ho':l[j]?=some o') (he':Bc o'.op=true) (h:Bf l i=Bf l j):i=j:=by
 have hi:=(List.getElem?_eq_some_iff.1 ho).1;have hj:=(List.getElem?_eq_some_iff.1 ho').1;rcases Nat.lt_trichotomy i j with h1|h1|h1
 ·have:=VL l ho he h1 (by omega);omega
 ·exact h1
 ·have:=VL l ho' he' h1 (by omega);omega
theorem settle {D0:List Deferred} {rs:List CZ} {hs:List AH} (hq1:∀ o,ops.toList[q]?=some o->JR o=true)
  (hfact:∀ o,ops.toList[q]?=some o->∃ (r:CZ) (hi hi':AH),rs[q]?=some r/\(h::hs)[Bf ops.toList q]?=some hi/\GZ P C ops o r.t hi=some (r.want,r.v,hi')/\(Bc o.op=true->(h::hs)[Bf ops.toList q+1]?=some hi'))
  (hI:A11 D0 P ops q nt rs hs t h e w0 1 L a w):A11 D0 P ops q nt rs hs t h e w0 0 L a w:=by
 obtain ⟨hdown,e1,p,hp,y,he1,hple,hhp,hHR,hy,heff,hslots,hsz,hdf⟩:=hI;cases y with
|none=>exact ⟨hdown,e1,p,hp,none,he1,hple,hhp,hHR,(fun g h=>by cases h),heff,hslots,hsz,hdf⟩
|some g =>
  obtain ⟨y1,y2,y3,y4,y5,oq,tq,z,y6,y7,y8,y9⟩:=hy g rfl;rcases Nat.lt_or_ge p (Bf ops.toList q) with hlt|hge
  ·exact ⟨hdown,e1,p,hp,some g,he1,hple,hhp,hHR,(fun g' h=>by cases h;exact ⟨hlt,y2,y3,y4,y5,oq,tq,z,y6,y7,y8,y9⟩),heff,hslots,hsz,hdf⟩
  ·have hpq:p=Bf ops.toList q:=by omega
   have hE:=hq1 oq y6;have hEe:=eG hE;obtain ⟨r,hi,hi',f1,f2,f3,f4⟩:=hfact oq y6;rw [<- hpq,hhp] at f2;cases f2;have f4':=f4 hEe;rw [<- hpq] at f4';obtain ⟨tq',z',k,s1,s2,s3,s4⟩:=Qp hE f3;rw [y7] at s1;cases s1;rw [y8] at s2;cases s2;obtain ⟨rfl,g1,g2⟩:=hHR.adopt s3 (c:=(0,0)) y4 y5 (ak y9 (XO y8))
   have hp1:p+1<=hs.length:=by
    have:=(List.getElem?_eq_some_iff.1 f4').1;simp at this;omega
   refine ⟨hdown,_,p+1,hi',none,he1.trans g1,hp1,f4',g2,(fun g h=>by cases h),fun i o ho hei _=>?_,fun s hsB=>?_,hsz,hdf⟩
   ·by_cases hiq:i=q
    ·subst hiq;exact ⟨fun _=>by omega,fun _=>y2⟩
    ·rw [heff i o ho hei (fun h=>absurd h hiq)];have:Bf ops.toList i ≠ Bf ops.toList q:=fun h=>hiq (TP ho hei y6 hEe h);omega
   ·rcases hslots s hsB with ⟨j,o,r2,d1,d2,d3,d4,d5⟩|⟨d1,d2⟩|⟨g',oq',d1,d2,d3,d4⟩
    ·exact .inl ⟨j,o,r2,d1,d2,d3,d4,d5.mono g1⟩
    ·exact .inr (.inl ⟨d1,d2.mono g1⟩)
    ·cases d1;rw [y6] at d2;cases d2;refine .inl ⟨q,oq,r,y6,f1,d3,y2,?_⟩;rw [d4,s4];exact .ptr En.EG
theorem ZQ {p:Nat->Oper->Bool}:∀ (l:Q_) (k:Nat),A0M p l k=true->∃ i x,l[i]?=some x/\p (k+i) x=true
|[],k,h=>by cases h
|y::l,k,h=>by
  unfold A0M at h;cases hb:p k y with
 |true=>exact ⟨0,y,rfl,hb⟩
 |false =>
   rw [hb] at h;obtain ⟨i,x,h1,h2⟩:=ZQ l _ h;exact ⟨i+1,x,by simpa using h1,by rw [<- h2,show Nat.add k 1+i=k+(i+1) by show k+1+i=_;omega]⟩
theorem A0r (h:Zt ops=true):∃ q,PL ops q=true:=by
 unfold Zt at h;cases hb:PL ops ops.size with
|true=>exact ⟨_,hb⟩
|false =>
  rw [hb] at h;obtain ⟨i,x,h1,h2⟩:=ZQ _ _ h;rw [b_t,Nat.zero_add] at h2;exact ⟨_,h2.2⟩
theorem Xq (hst:PL ops q=true):∀ i o,ops.toList[i]?=some o->P6 o i=true/\(i=q->JR o=true)/\(Fp (mks ops.toList []) i q=true->∀ j p,ops.toList[j]?=some p->Bc p.op=true->j < q->Fp (mks ops.toList []) i j=true) /\
  ∀ j p,ops.toList[j]?=some p->(i=j\/∀ d,o.dst=some d->p.dst ≠ some d)/\(∀ d,p.dst=some d->PE (Dh ops o) d=true->j=i\/(j < i/\Fp (mks ops.toList []) i j=true)\/(i < j/\Fp (mks ops.toList []) j i=true))/\(Bc o.op=true->Bc p.op=true->j < i->i ≠ q->Fp (mks ops.toList []) i j=true):=by
 intro i o ho;unfold PL at hst;simp only [QT] at hst;have h1:=Jt _ _ hst i o ho;rw [Nat.zero_add,b_t,b_t,b_t] at h1;obtain ⟨c1,c2,c3,c4⟩:=h1;refine ⟨c1,fun hiq=>?_,fun hb j p hp hpe hjq=>?_,fun j p hp=>?_⟩
 ·subst hiq;rw [Nat.beq_refl] at c2;exact c2
 ·rw [hb] at c3;have h2:=Jt _ _ c3 j p hp;rw [Nat.zero_add] at h2;have:Nat.blt j q=true:=Nat.ble_eq_true_of_le hjq;rw [hpe,this] at h2;simpa using h2
 ·have h2:=Jt _ _ c4 j p hp;simp only [Nat.zero_add,b_t] at h2;obtain ⟨⟨b1,b2⟩,b3⟩:=h2;refine ⟨?_,fun d hd hn=>?_,fun e1 e2 hlt hiq=>?_⟩
  ·rw [Bool.or_eq_true] at b1;rcases b1 with b1|b1
   ·exact .inl (n_q b1)
   ·refine .inr fun d hd hp2=>?_;rw [hd,hp2] at b1;simp only [Nat.beq_refl] at b1;cases b1
  ·rw [hd] at b2;simp only [hn,Bool.not_true,Bool.false_or,Bool.or_eq_true] at b2;rcases b2 with b2|b2
   ·exact .inl (n_q b2)
   ·cases hb:Nat.blt j i with
   |true=>rw [hb] at b2;exact .inr (.inl ⟨n_l hb,b2⟩)
   |false =>
     rw [hb] at b2
     have:¬ j < i:=fun hh=>by
      have:Nat.blt j i=true:=Nat.ble_eq_true_of_le hh;rw [this] at hb;cases hb
     by_cases hji:j=i
     ·exact .inl hji
     ·exact .inr (.inr ⟨by omega,b2⟩)
  ·have h3:Nat.blt j i=true:=Nat.ble_eq_true_of_le hlt
   have h4:Nat.beq i q=false:=by
    cases hb:Nat.beq i q with
   |false=>rfl
   |true=>exact absurd (n_q hb) hiq
   rw [e1,e2,h3,h4] at b3;simpa using b3
theorem Zw (hst:Zt ops=true) (hm:P.follows .mixedOrders=true) (hC:∀ w0,F8 P C w0) (ht:TR e t a nt) (hr:HX e h w0 w) {t':Tm} (hx:Wn P C ops nt t h=some (t',h'))
  (hQ:∀ e' a' w',e.le e'->TR e' t' a' nt->HX e' h' w0 w'->Q .normal a' w'):(Code.region id ops true).wp P Q a w:=by
 unfold Wn at hx;rw [hst] at hx;simp only [cond_true,QT,Zu] at hx;split at hx
 case h_2=>cases hx
 rename_i rs hs tf hrun;cases hck:wS P ops ops.toList (mks ops.toList []) (h::hs) ops.toList rs 0 with
|false=>rw [hck] at hx;cases hx
|true =>
 rw [hck] at hx;cases hx;obtain ⟨a1,a2,a3,a4,a5⟩:=TK ht.big _ _ _ _ _ _ hrun;have hD0:∃ D0,a.defers=D0:=⟨_,rfl⟩;obtain ⟨D0,hD0⟩:=hD0;have hdr:=ht.defers;rw [hD0] at hdr
 have hmk:Cc t' SB=Cc t SB:=by
  rcases a5 SB (by decide) with ⟨j,o',r',c2,c3,c4,c5⟩|⟨_,c2⟩
  ·obtain ⟨_,_,_,_,_,_,_,q1⟩:=a3 j o' c2;exact absurd (Nat.lt_of_lt_of_le (q1 SB c4) ht.small) (by decide)
  ·exact c2
 obtain ⟨q,hst⟩:=A0r hst;have hS:=Xq hst
 have hfact:∀ o,ops.toList[q]?=some o->∃ (r:CZ) (hi hi':AH),rs[q]?=some r/\(h::hs)[Bf ops.toList q]?=some hi/\GZ P C ops o r.t hi=some (r.want,r.v,hi')/\(Bc o.op=true->(h::hs)[Bf ops.toList q+1]?=some hi'):=fun o ho=>by
  obtain ⟨r,hi,hi',f1,f2,f3,f4,_⟩:=a3 q o ho;exact ⟨r,hi,hi',f1,f2,f3,f4⟩
 have hq1:∀ o,ops.toList[q]?=some o->JR o=true:=fun o ho=>(hS q o ho).2.1 rfl;have hops:∀ i o,ops.toList[i]?=some o->ops[i]?=some o:=fun i o ho=>by rw [<- a_g];exact ho
 have hwb:Gh ops=true:=by
  unfold Gh;rw [l_t];intro i hi;have hi':=List.mem_range.1 hi;have hg:ops.toList[i]?=some ops[i]:=by rw [a_g];exact Array.getElem?_eq_getElem hi'
  rw [Array.getElem?_eq_getElem hi'];simp only [Option.map_some,Option.getD_some];have:=(hS i _ hg).1;unfold P6 at this;rw [l_t] at this;rw [<- Array.all_toList,l_t];intro ed hed;have h2:=this ed hed;rw [Bool.or_eq_true] at h2 ⊢;exact h2.imp (fun q=>q) fun h3=>decide_eq_true (n_l h3)
 refine I9 hm hwb (fun L a w=>A11 D0 P ops q nt rs hs t h e w0 0 L a w) ?_ ?_ ?_
 ·
  intro L i a w hLs hready ⟨hdown,e1,p,hp,y,he1,hple,hhp,hHR,hy,heff,hslots,hsz,hdf⟩
  have hi:i < ops.size:=by
   unfold Region.ready at hready;rw [List.mem_filter] at hready;exact List.mem_range.1 hready.1
  have hg:ops.toList[i]?=some ops[i]:=by rw [a_g];exact Array.getElem?_eq_getElem hi
  generalize ops[i]=o at hg;obtain ⟨hLi,hdeps⟩:=Ap hLs hready (hops i o hg);have hbit:∀ j,Fp (mks ops.toList []) i j=true->L.getD j false=true:=fun j hb=>Gx hLs hdown i hg (fun ed h1 h2=>hdeps ed h1 h2) hb
  have hbit2:∀ j p',ops.toList[j]?=some p'->L.getD j false=true->Fp (mks ops.toList []) j i=true->False:=fun j p' hj hl hb=>by
   have:=Gx hLs hdown j hj (fun ed h1 h2=>hdown j p' hj hl ed h1 h2) hb;rw [this] at hLi;cases hLi
  have hyq:i=q->y=none:=fun hiq=>by
   cases y with
  |none=>rfl
  |some g =>
    have:=(hy g rfl).2.1;rw [<- hiq,hLi] at this;cases this
  have hearly:∀ g,y=some g->Fp (mks ops.toList []) i q=true->False:=fun g hyg hb=>by
   obtain ⟨y1,y2,_,_,_,oq,tq,z,y6,_⟩:=hy g hyg;have hql:=(List.getElem?_eq_some_iff.1 y6).1;obtain ⟨j,o',c1,c2,c3,c4⟩:=GV ops.toList q (by omega) (show p < Bf ops.toList q by omega);have h1:=hbit j ((hS i o hg).2.2.1 hb j o' c2 c3 c1);have:=(heff j o' c2 c3 (fun h=>by omega)).1 h1;omega
  obtain ⟨r,hi0,hi1,b1,b2,b3,b4,b5⟩:=a3 i o hg
  have hthird:∀ s g oq,y=some g->ops.toList[q]?=some oq->oq.dst=some s->PE (Dh ops o) s=true->False:=by
   intro s g oq hyg hoq hds hn;obtain ⟨y1,y2,_⟩:=hy g hyg;rcases ((hS i o hg).2.2.2 q oq hoq).2.1 s hds hn with h2|⟨_,h2⟩|⟨_,h2⟩
   ·rw [<- h2,y2] at hLi;cases hLi
   ·exact hearly g hyg h2
   ·exact hbit2 q oq hoq y2 h2
  have hnames:∀ s,s < SB->PE (Dh ops o) s=true->VR e1 (Cc r.t s) (a.tmps.getD s undef):=by
   intro s hsB hn;rcases a4 i r b1 s (JC hsB) with ⟨j,o',r',c1,c2,c3,c4,c5⟩|⟨c1,c2⟩
   ·rcases hslots s hsB with ⟨j2,o2,r2,d1,d2,d3,d4,d5⟩|⟨d1,d2⟩|⟨g,oq,d1,d2,d3,d4⟩
    ·have:j=j2:=by
      rcases ((hS j o' c2).2.2.2 j2 o2 d1).1 with h1|h1
      ·exact h1
      ·exact absurd d3 (h1 s c4)
     subst this;rw [c3] at d2;cases d2;rw [c5];exact d5
    ·exfalso;have h1:=d1 j o' c2 c4;rcases ((hS i o hg).2.2.2 j o' c2).2.1 s c4 hn with h2|⟨_,h2⟩|⟨h2,_⟩
     ·omega
     ·rw [hbit j h2] at h1;cases h1
     ·omega
    ·exact (hthird s g oq d1 d2 d3 hn).elim
   ·rcases hslots s hsB with ⟨j2,o2,r2,d1,d2,d3,d4,d5⟩|⟨d1,d2⟩|⟨g,oq,d1,d2,d3,d4⟩
    ·exfalso;rcases ((hS i o hg).2.2.2 j2 o2 d1).2.1 s d3 hn with h2|⟨h2,_⟩|⟨_,h2⟩
     ·subst h2;rw [d4] at hLi;cases hLi
     ·exact c1 j2 o2 h2 d1 d3
     ·exact hbit2 j2 o2 d1 d4 h2
    ·rw [c2];exact d2
    ·exact (hthird s g oq d1 d2 d3 hn).elim
  have hev:EvR e1 (IC (Dh ops o) r.t) a:=Uf hnames;have hguard:∀ d,d ∈ Tt ops o.guard->d < SB->VR e1 (Cc r.t d) (a.tmps.getD d undef):=fun d hd hB=>hnames d hB (Za (List.mem_append.2 (.inl hd)))
  have hturn:Bc o.op=true->(i ≠ q\/Bf ops.toList i<=p)->Bf ops.toList i=p:=by
   intro he hiq;have h1:¬ Bf ops.toList i < p:=fun h=>by rw [(heff i o hg he hyq).2 h] at hLi;cases hLi
   rcases Nat.lt_or_ge p (Bf ops.toList i) with h2|h2
   ·exfalso;have hne:i ≠ q:=hiq.elim (fun h=>h) (fun h=>by omega);obtain ⟨j,o',c1,c2,c3,c4⟩:=GV ops.toList i (by rw [Array.length_toList];omega) h2;have h3:=((hS i o hg).2.2.2 j o' c2).2.2 he c3 c1 hne;have h4:=hbit j h3;by_cases hjq:j=q
    ·subst hjq;cases y with
    |none=>have:=(heff j o' c2 c3 (fun _=>rfl)).1 h4;omega
    |some g=>have:=(hy g rfl).1;omega
    ·have:=(heff j o' c2 c3 (fun h=>absurd h hjq)).1 h4;omega
   ·omega
  have hF:∀ g,y=some g->g < w.heap.size:=fun g hyg=>(hy g hyg).2.2.1;have hG:=hHR.guard (F:=fun g=>y=some g) hF (fun k o g c hk ho hke hyg=>(hy g hyg).2.2.2.2.1 k o c hk ho hke);have hLi':i < L.size:=by rw [hLs];exact hi
  have hgs:∀ j,(L.setIfInBounds i true).getD j false=if j=i then true else L.getD j false:=fun j=>Ze hLi'
  have hdown':Down ops (L.setIfInBounds i true):=by
   intro j o' hj hl ed hed hb;rw [hgs];split
   ·rfl
   ·rw [hgs] at hl;split at hl
    ·rename_i hji;subst hji;rw [hg] at hj;cases hj;exact hdeps ed hed hb
    ·exact hdown j o' hj hl ed hed hb
  have hothers:∀ {e2:En} {u:Value} (y':Option Nat),e1.le e2->(∀ g,y=some g->y'=some g)->∀ s,s < SB->o.dst ≠ some s->(∃ (j:Nat) (o':Oper) (r:CZ),ops.toList[j]?=some o'/\rs[j]?=some r/\o'.dst=some s/\(L.setIfInBounds i true).getD j false=true/\VR e2 r.v ((a.put o.dst u).tmps.getD s undef))\/((∀ (j:Nat) (o':Oper),ops.toList[j]?=some o'->o'.dst=some s->(L.setIfInBounds i true).getD j false=false)/\VR e2 (Cc t s) ((a.put o.dst u).tmps.getD s undef))\/∃ g oq,y'=some g/\ops.toList[q]?=some oq/\oq.dst=some s/\(a.put o.dst u).tmps.getD s undef=.pointer (some ⟨g,0,none⟩):=by
   intro e2 u y' he2 hyy s hsB hds;have hpg:=NY (a:=a) (d:=o.dst) (u:=u) (s:=s) (fun x hx=>Nat.lt_of_lt_of_eq (b5 x hx) hsz.symm);rw [if_neg hds] at hpg;rw [hpg];rcases hslots s hsB with ⟨j2,o2,r2,d1,d2,d3,d4,d5⟩|⟨d1,d2⟩|⟨g,oq,d1,d2,d3,d4⟩
   ·exact .inl ⟨j2,o2,r2,d1,d2,d3,by rw [hgs,d4];simp,d5.mono he2⟩
   ·refine .inr (.inl ⟨fun j o' hj hd=>?_,d2.mono he2⟩);rw [hgs];have hne2:j ≠ i:=fun h=>by subst h;rw [hg] at hj;cases hj;exact hds hd
    rw [if_neg hne2];exact d1 j o' hj hd
   ·exact .inr (.inr ⟨g,oq,hyy g d1,d2,d3,d4⟩)
  have fin:∀ {e2:En} {hn:AH} {w2:World} {u:Value},(Bc o.op=true->Bf ops.toList i=p)->e1.le e2->VR e2 r.v u->HX e2 hn (w0.with hHR.below (fun g=>y=some g) hF) w2->(Bc o.op=true->hn=hi1)->(Bc o.op=false->hn=hp) ->
    A11 D0 P ops q nt rs hs t h e w0 0 (L.setIfInBounds i true) (a.put o.dst u) w2:=by
   intro e2 hn w2 u hc he2 hvu hG2 hne hnn;obtain ⟨hHR2,hkept⟩:=hHR.NR hG2
   have hfree:∀ g,y=some g->∀ k o c,k < BIG->hn.t.get k=some o->e2 k ≠ some (g,c):=by
    intro g hyg k o' c hk ho hke;obtain ⟨g',c',q1,q2,_⟩:=hG2.live k o' hk ho;rw [hke] at q1;cases q1;exact q2 (.inr hyg)
   refine settle hq1 hfact ⟨hdown',?_⟩
   have hslot2:∀ s,s < SB->(∃ (j:Nat) (o':Oper) (r:CZ),ops.toList[j]?=some o'/\rs[j]?=some r/\o'.dst=some s/\(L.setIfInBounds i true).getD j false=true/\VR e2 r.v ((a.put o.dst u).tmps.getD s undef))\/((∀ (j:Nat) (o':Oper),ops.toList[j]?=some o'->o'.dst=some s->(L.setIfInBounds i true).getD j false=false)/\VR e2 (Cc t s) ((a.put o.dst u).tmps.getD s undef))\/∃ g oq,y=some g/\ops.toList[q]?=some oq/\oq.dst=some s/\(a.put o.dst u).tmps.getD s undef=.pointer (some ⟨g,0,none⟩):=by
    intro s hsB;by_cases hds:o.dst=some s
    ·have hpg:=NY (a:=a) (d:=o.dst) (u:=u) (s:=s) (fun x hx=>Nat.lt_of_lt_of_eq (b5 x hx) hsz.symm);rw [if_pos hds] at hpg;refine .inl ⟨i,o,r,hg,b1,hds,by rw [hgs,if_pos rfl],?_⟩;rw [hpg];exact hvu
    ·exact hothers y he2 (fun _ h=>h) s hsB hds
   have hyL:∀ g,y=some g->(L.setIfInBounds i true).getD q false=true:=fun g hyg=>by
    rw [hgs];split
    ·rfl
    ·exact (hy g hyg).2.1
   cases he:Bc o.op with
  |true =>
    have hc:=hc he;have hh:=b4 he;rw [hc,<- hne he] at hh
    have hp1:p+1<=hs.length:=by
     have:=(List.getElem?_eq_some_iff.1 hh).1;simp at this;omega
    refine ⟨e2,p+1,hn,y,he1.trans he2,hp1,hh,hHR2,fun g hyg=>?_,fun j o' hj hej hjy=>?_,hslot2,by rw [NW];exact hsz,by rw [put_defers];exact hdf⟩
    ·obtain ⟨y1,y2,y3,y4,y5,oq,tq,z,y6,y7,y8,y9⟩:=hy g hyg;exact ⟨by omega,hyL g hyg,Nat.lt_of_lt_of_le y3 hG2.below.size,y4,hfree g hyg,oq,tq,z,y6,y7,y8,(hkept g hyg).trans y9⟩
    ·rw [hgs];by_cases hji:j=i
     ·subst hji;rw [if_pos rfl];exact ⟨fun _=>by omega,fun _=>rfl⟩
     ·rw [if_neg hji,heff j o' hj hej hjy];have hcne:Bf ops.toList j ≠ Bf ops.toList i:=fun h=>hji (TP hj hej hg he h);omega
  |false =>
    have:=hnn he;subst this;refine ⟨e2,p,hn,y,he1.trans he2,hple,hhp,hHR2,fun g hyg=>?_,fun j o' hj hej hjy=>?_,hslot2,by rw [NW];exact hsz,by rw [put_defers];exact hdf⟩
    ·obtain ⟨y1,y2,y3,y4,y5,oq,tq,z,y6,y7,y8,y9⟩:=hy g hyg;exact ⟨by omega,hyL g hyg,Nat.lt_of_lt_of_le y3 hG2.below.size,y4,hfree g hyg,oq,tq,z,y6,y7,y8,(hkept g hyg).trans y9⟩
    ·rw [hgs];have hji:j ≠ i:=fun h=>by subst h;rw [hg] at hj;cases hj;rw [he] at hej;cases hej
     rw [if_neg hji];exact heff j o' hj hej hjy
  by_cases hahead:i=q/\p < Bf ops.toList i
  ·
   obtain ⟨hiq,hplt⟩:=hahead;subst hiq;have hyn:=hyq rfl;subst hyn;have hE:=hq1 o hg;obtain ⟨tq,z,k,s1,s2,s3,s4⟩:=Qp hE b3;obtain ⟨_,_,s5⟩:=PK hE;refine Dx hg (DV (t:=r.t) (ops:=ops) hguard (by rw [s5];rfl)) fun K hK=>?_;refine JA (.inl (oH s1 s2)) (hK _ _ ?_);have hgr:=Jk w (.cells z.toArray tq);refine ⟨hdown',e1,p,hp,some w.heap.size,he1,hple,hhp,hHR.more hgr,fun g hyg=>?_,fun j o' hj hej hjy=>?_,fun s hsB=>?_,by rw [NW];exact hsz,by rw [put_defers];exact hdf⟩
   ·cases hyg;refine ⟨hplt,by rw [hgs,if_pos rfl],by simp,hHR.below.fresh (Nat.le_refl _),fun k o c hk ho hke=>?_,o,tq,z,hg,s1,s2,heap_alloc_new w _⟩;have:=(hHR.at hke ho).2.lt;omega
   ·have hji:j ≠ i:=fun h=>by have:=hjy h;cases this
    rw [hgs,if_neg hji];exact heff j o' hj hej (fun _=>rfl)
   ·by_cases hds:o.dst=some s
    ·have hpg:=NY (a:=a) (d:=o.dst) (u:=.pointer (some ⟨w.heap.size,0,none⟩)) (s:=s) (fun x hx=>Nat.lt_of_lt_of_eq (b5 x hx) hsz.symm);rw [if_pos hds] at hpg;exact .inr (.inr ⟨w.heap.size,o,rfl,hg,hds,hpg⟩)
    ·exact hothers (some w.heap.size) (En.le.refl e1) (fun g h=>by cases h) s hsB hds
  have hturn:Bc o.op=true->Bf ops.toList i=p:=fun he=>hturn he (by
   by_cases hiq:i=q
   ·exact .inr (Nat.le_of_not_lt fun h=>hahead ⟨hiq,h⟩)
   ·exact .inl hiq)
  have fin:=fun {e2:En} {hn:AH} {w2:World} {u:Value}=>@fin e2 hn w2 u hturn;unfold GZ at b3;split at b3
  ·
   rename_i hw;injection b3 with b3;simp only [Prod.mk.injEq] at b3;obtain ⟨w1,w2,w3⟩:=b3;refine Ld hg (DV hguard hw) ?_;refine fin (hn:=hp) (En.le.refl e1) (by rw [<- w2];exact .undef) hG (fun he=>?_) (fun _=>rfl);have hc:=hturn he;rw [hc,hhp] at b2;cases b2;exact w3
  ·rename_i hw;split at b3
   ·rename_i v hx hde;injection b3 with b3;simp only [Prod.mk.injEq] at b3;obtain ⟨w1,rfl,rfl⟩:=b3;have hwant:=DV hguard hw;refine Dx hg hwant fun K hK=>?_;unfold jH at hde;cases he:Bc o.op with
   |true =>
     have hc:=hturn he;rw [hc,hhp] at b2;cases b2;rw [he] at hde;split at hde
     ·rename_i v2 hv;cases hde;obtain ⟨u,q1,q2⟩:=EP (hC w0).keyed hev hG hv;exact JA (.inl q1) (hK _ _ (fin (hn:=hp) (En.le.refl e1) q2 hG (fun _=>rfl) (fun _=>rfl)))
     ·rename_i v2 h2 hv;cases hde;obtain ⟨u,w',e',q1,q2,q3,q4⟩:=EP (hC w0).keyed hev hG hv;exact JA q2 (hK _ _ (fin q1 q3 q4 (fun _=>rfl) (fun h=>by rw [he] at h;cases h)))
     ·rename_i f args hv;obtain ⟨args',q1,q2⟩:=EP (hC w0).keyed hev hG hv;have hde':C f args hp=some (r.v,hx):=hde;unfold Oper.wp;rw [q1];show Calls P f args'.toArray w _;refine ((hC _).ok f args hp r.v hx hde' e1 w args' q2 hG).mono ?_;rintro y w' ⟨u,e',rfl,z1,z2,z3⟩;exact hK _ _ (fin z1 z2 z3 (fun _=>rfl) (fun h=>by rw [he] at h;cases h))
     ·cases hde
   |false =>
     rw [he] at hde;split at hde
     ·rename_i v2 hv;cases hde
      have hnow:aop P (IC (Dh ops o) r.t) o.op hp=some (.val r.v):=by
       cases hmem:Pz o.op with
      |false=>rw [W9 he hmem hp hi0];exact hv
      |true =>
        have h1:=Zz _ _ _ hck i o r hg b1 hmem w1.symm;rw [Nat.zero_add] at h1;refine VK _ _ h1 p hp hhp ?_;rw [Nat.zero_add];refine jZ _ _ fun j o' hj=>?_;rw [Nat.zero_add];cases hej:Bc o'.op with
       |false=>rfl
       |true =>
         by_cases hjq:∃ g,y=some g/\j=q
         ·obtain ⟨g,hyg,rfl⟩:=hjq;have hnl:¬ Bf ops.toList j < p:=by have:=(hy g hyg).1;omega
          cases hb:Nat.blt (Bf ops.toList j) p with
         |true=>exact absurd (n_l hb) hnl
         |false =>
           cases hbb:Fp (mks ops.toList []) i j with
          |false=>rfl
          |true=>exact (hearly g hyg hbb).elim
         have hiff:=heff j o' hj hej (fun h=>by
          cases y with
         |none=>rfl
         |some g=>exact absurd ⟨g,rfl,h⟩ hjq)
         cases hb:Nat.blt (Bf ops.toList j) p with
        |true =>
          have hlt:Bf ops.toList j < p:=n_l hb;have hl:=hiff.2 hlt;cases hbb:Fp (mks ops.toList []) j i with
         |false=>rfl
         |true=>exact (hbit2 j o' hj hl hbb).elim
        |false =>
          have hnl:¬ Bf ops.toList j < p:=fun hh=>by
           have:Nat.blt (Bf ops.toList j) p=true:=Nat.ble_eq_true_of_le hh;rw [this] at hb;cases hb
          cases hbb:Fp (mks ops.toList []) i j with
         |false=>rfl
         |true=>exact absurd (hiff.1 (hbit j hbb)) hnl
      obtain ⟨u,q1,q2⟩:=EP (hC w0).keyed hev hHR hnow;exact JA (.inl q1) (hK _ _ (fin (hn:=hp) (En.le.refl e1) q2 hG (fun h=>by rw [he] at h;cases h) (fun _=>rfl)))
     ·cases hde
     ·cases hde
     ·cases hde
   ·cases b3
  ·cases b3
 ·
  intro L a w hall ⟨hdown,e1,p,hp,y,he1,hple,hhp,hHR,hy,heff,hslots,hsz,hdf⟩;have hjs:∀ {j:Nat} {o':Oper},ops.toList[j]?=some o'->L.getD j false=true:=fun hj=>hall _ (by have:=(List.getElem?_eq_some_iff.1 hj).1;rw [Array.length_toList] at this;exact this)
  have hyn:y=none:=by
   cases y with
  |none=>rfl
  |some g =>
    exfalso;obtain ⟨y1,y2,_,_,_,oq,tq,z,y6,_⟩:=hy g rfl;have hql:=(List.getElem?_eq_some_iff.1 y6).1;obtain ⟨j,o',c1,c2,c3,c4⟩:=GV ops.toList q (by omega) (show p < Bf ops.toList q by omega);have:=(heff j o' c2 c3 (fun h=>by omega)).1 (hjs c2);omega
  subst hyn
  have hp2:p=hs.length:=by
   rcases Nat.lt_or_ge p hs.length with h1|h1
   ·exfalso;rw [a2] at h1;obtain ⟨j,o',c1,c2,c3,c4⟩:=GV ops.toList _ (Nat.le_refl _) h1;have:=(heff j o' c2 c3 (fun _=>rfl)).1 (hjs c2);omega
   ·omega
  subst hp2;rw [Vw] at hhp;cases hhp;refine hQ e1 a w he1 ⟨fun s hsB=>?_,hsz,ht.small,by rw [hdf,hmk];exact hdr.mono he1⟩ hHR;rcases a5 s (JC hsB) with ⟨j,o',r',c2,c3,c4,c5⟩|⟨c1,c2⟩
  ·rcases hslots s hsB with ⟨j2,o2,r2,d1,d2,d3,d4,d5⟩|⟨d1,d2⟩|⟨g,oq,d1,_⟩
   ·have:j=j2:=by
     rcases ((hS j o' c2).2.2.2 j2 o2 d1).1 with h1|h1
     ·exact h1
     ·exact absurd d3 (h1 s c4)
    subst this;rw [c3] at d2;cases d2;rw [c5];exact d5
   ·have:=d1 j o' c2 c4;rw [hjs c2] at this;cases this
   ·cases d1
  ·rcases hslots s hsB with ⟨j2,o2,r2,d1,d2,d3,d4,d5⟩|⟨d1,d2⟩|⟨g,oq,d1,_⟩
   ·exact absurd d3 (c1 j2 o2 d1)
   ·rw [c2];exact d2
   ·cases d1
 ·
  have h0:∀ j,(Array.replicate ops.size false).getD j false=false:=fun j=>by
   by_cases hj:j < ops.size<;>simp [hj]
  refine ⟨fun j o' _ hl=>(by rw [h0] at hl;cases hl),e,0,h,none,En.le.refl e,Nat.zero_le _,rfl,hr.drawn,(fun g h=>by cases h),fun j o' _ _ _=>?_,fun s hsB=>.inr (.inl ⟨fun j o' _ _=>h0 j,ht.slots s hsB⟩),ht.size,hD0⟩;rw [h0];exact ⟨fun h=>(by cases h),fun h=>by omega⟩
end
variable {h' h1:AH} {e' e1:En} {Q:Exit->P_} {T g id m:Nat} {op:Op} {u:Value} {w':World}
section
variable {P:Program}
theorem Zh {e:En} {v:Value} (h:BM v=true) (hv:VR e v u):VR e' v u:=by
 cases hv<;>first|exact GN h|cases h
theorem Zf {e e':En}:∀ {l m:L_},l.all BM=true->VRs e l m->VRs e' l m
|_,_,_,.nil=>.nil
|_,_,h,.cons hv ht=>by
  rw [List.all_cons,b_t] at h;exact .cons (Zh h.1 hv) (Zf h.2 ht)
theorem Vd {e:En} {v:Value} (h:Nq v=true) (hv:VR e v u):VR e' v u:=by
 cases hv with
|agg ha=>exact .agg (Zf (by simpa [Nq] using h) ha)
|_=>exact Zh (e:=e) (by simpa [Nq] using h) (by constructor<;>assumption)
theorem Np {e e':En}:∀ {l m:L_},l.all Nq=true->VRs e l m->VRs e' l m
|_,_,_,.nil=>.nil
|_,_,h,.cons hv ht=>by
  rw [List.all_cons,b_t] at h;exact .cons (Vd h.1 hv) (Np h.2 ht)
theorem Ve {e:En} {v:Value} (h:Nr v=true) (hv:VR e v u):VR e' v u:=by
 cases hv with
|tuple ha=>exact .tuple (Np (by simpa [Nr] using h) ha)
|_=>exact Vd (e:=e) (by simpa [Nr] using h) (by constructor<;>assumption)
theorem HX.rest {e:En} {h:AH} {w0:Base} {w:World} (hr:HX e h w0 w) (h2:HX e1 h1 (Base.all w) w'):HX e h w0 w':=by
 refine ⟨hr.below.below h2.below.toBelow,hr.small,hr.dom,fun k o hk ho=>?_,hr.inj⟩;obtain ⟨g,c,q1,q2,q3⟩:=hr.live k o hk ho;exact ⟨g,c,q1,q2,q3.block (h2.below.block g q3.lt)⟩
end
section
variable {P:Program} {e:En} {h:AH} {w0:Base} {w:World} {a:Act} {o:Oper} {t:Tm} {nt:Nat} {ops:O_} {C:Et}
theorem YD {st:Oper->Tm->Option (Bool × Value)}:∀ (l:Q_) (t:Tm),iW st nt l t=uN st nt l t
|[],_=>rfl
|o::l,t=>by
  have h0:iW st nt (o::l) t=Option.rec (motive:=fun _=>Option (List CZ × Tm)) none (fun p=>Prod.rec (motive:=fun _=>Option (List CZ × Tm)) (fun b v =>
   Option.rec (motive:=fun _=>Option (List CZ × Tm)) none (fun t'=>A5s ⟨t,b,v⟩ (iW st nt l t')) (UW nt t o.dst v)) p) (st o t):=rfl
  rw [h0];unfold uN;cases st o t with
 |none=>rfl
 |some p =>
   obtain ⟨b,v⟩:=p;simp only;cases UW nt t o.dst v with
  |none=>rfl
  |some t'=>simp only [YD l]
theorem Sv {st:Oper->Tm->Option (Bool × Value)} (hnt:nt < BIG):∀ (l:Q_) (t:Tm) (rs:List CZ) (tf:Tm),uN st nt l t=some (rs,tf) ->
  (∀ (i:Nat) (o:Oper),l[i]?=some o->∃ (r:CZ),rs[i]?=some r/\st o r.t=some (r.want,r.v)/\∀ d,o.dst=some d->d < nt) /\
  (∀ (i:Nat) (r:CZ),rs[i]?=some r->∀ s,s < BIG->(∃ (j:Nat) (o':Oper) (r':CZ),j < i/\l[j]?=some o'/\rs[j]?=some r'/\o'.dst=some s/\Cc r.t s=r'.v)\/((∀ (j:Nat) (o':Oper),j < i->l[j]?=some o'->o'.dst ≠ some s)/\Cc r.t s=Cc t s)) /\
  (∀ s,s < BIG->(∃ (j:Nat) (o':Oper) (r':CZ),l[j]?=some o'/\rs[j]?=some r'/\o'.dst=some s/\Cc tf s=r'.v)\/((∀ (j:Nat) (o':Oper),l[j]?=some o'->o'.dst ≠ some s)/\Cc tf s=Cc t s))
|[],t,rs,tf,hx=>by
  cases hx;exact ⟨fun i o ho=>by simp at ho,fun i r hr=>by simp at hr,fun s _=>.inr ⟨fun j o ho=>by simp at ho,rfl⟩⟩
|o::l,t,rs,tf,hx=>by
  unfold uN at hx;split at hx
  ·rename_i b v hstep;split at hx
   ·rename_i t' hput;unfold A5s at hx;split at hx
    ·rename_i rs' tf' hrec;cases hx;obtain ⟨a3,a4,a5⟩:=Sv hnt l t' rs' tf hrec
     have hslot:∀ s,s < BIG->(o.dst=some s/\Cc t' s=v)\/(o.dst ≠ some s/\Cc t' s=Cc t s):=by
      intro s hs;rcases LG hput with ⟨h1,rfl⟩|⟨d,h1,h2,rfl⟩
      ·exact .inr ⟨by rw [h1];simp,rfl⟩
      ·rw [FP (Nat.lt_trans h2 hnt) hs];by_cases hsd:s=d
       ·subst hsd;exact .inl ⟨h1,by simp⟩
       ·exact .inr ⟨by rw [h1];simp;exact fun e=>hsd e.symm,by simp [hsd]⟩
     refine ⟨?_,?_,?_⟩
     ·intro i o2 ho2;cases i with
     |zero =>
       simp only [List.getElem?_cons_zero,Option.some.injEq] at ho2;subst ho2;refine ⟨_,rfl,hstep,fun d hd=>?_⟩;rcases LG hput with ⟨h1,_⟩|⟨d',h1,h2,_⟩
       ·rw [h1] at hd;cases hd
       ·rw [h1] at hd;cases hd;exact h2
     |succ i =>
       obtain ⟨r,b1,b2,b3⟩:=a3 i o2 (by simpa using ho2);exact ⟨r,by simpa using b1,b2,b3⟩
     ·intro i r hr s hs;cases i with
     |zero =>
       simp only [List.getElem?_cons_zero,Option.some.injEq] at hr;subst hr;exact .inr ⟨fun j o' hj=>by omega,rfl⟩
     |succ i =>
       rcases a4 i r (by simpa using hr) s hs with ⟨j,o',r',c1,c2,c3,c4,c5⟩|⟨c1,c2⟩
       ·exact .inl ⟨j+1,o',r',by omega,by simpa using c2,by simpa using c3,c4,c5⟩
       ·rcases hslot s hs with ⟨d1,d2⟩|⟨d1,d2⟩
        ·exact .inl ⟨0,o,_,by omega,rfl,rfl,d1,c2.trans d2⟩
        ·refine .inr ⟨fun j o' hj ho'=>?_,c2.trans d2⟩;cases j with
        |zero=>simp only [List.getElem?_cons_zero,Option.some.injEq] at ho';subst ho';exact d1
        |succ j=>exact c1 j o' (by omega) (by simpa using ho')
     ·intro s hs;rcases a5 s hs with ⟨j,o',r',c2,c3,c4,c5⟩|⟨c1,c2⟩
      ·exact .inl ⟨j+1,o',r',by simpa using c2,by simpa using c3,c4,c5⟩
      ·rcases hslot s hs with ⟨d1,d2⟩|⟨d1,d2⟩
       ·exact .inl ⟨0,o,_,rfl,rfl,d1,c2.trans d2⟩
       ·refine .inr ⟨fun j o' ho'=>?_,c2.trans d2⟩;cases j with
       |zero=>simp only [List.getElem?_cons_zero,Option.some.injEq] at ho';subst ho';exact d1
       |succ j=>exact c1 j o' (by simpa using ho')
    ·cases hx
   ·cases hx
  ·cases hx
theorem X9 (hst:Xa ops T m=true):∀ i o,ops.toList[i]?=some o->P6 o i=true/\(i ≠ 0->(Ql T m o=true/\Fp (mks ops.toList []) i 0=true)\/(Ql T m o=false/\RH o.op=true)) /\
  ∀ j p,ops.toList[j]?=some p->(i=j\/∀ d,o.dst=some d->p.dst ≠ some d)/\(∀ d,p.dst=some d->PE (Dh ops o) d=true->j=i\/(j < i/\Fp (mks ops.toList []) i j=true)\/(i < j/\Fp (mks ops.toList []) j i=true)):=by
 intro i o ho;unfold Xa at hst;simp only [QT] at hst;have h1:=Jt _ _ hst i o ho;rw [Nat.zero_add,b_t,b_t] at h1;obtain ⟨c1,c2,c4⟩:=h1;refine ⟨c1,fun hi=>?_,fun j p hp=>?_⟩
 ·have hb:Nat.beq i 0=false:=by
   cases hb:Nat.beq i 0 with
  |false=>rfl
  |true=>exact absurd (n_q hb) hi
  rw [hb] at c2;cases hI:Ql T m o with
 |true=>rw [hI] at c2;exact .inl ⟨rfl,c2⟩
 |false=>rw [hI] at c2;exact .inr ⟨rfl,c2⟩
 ·have h2:=Jt _ _ c4 j p hp;simp only [Nat.zero_add,b_t] at h2;obtain ⟨b1,b2⟩:=h2;refine ⟨?_,fun d hd hn=>?_⟩
  ·rw [Bool.or_eq_true] at b1;rcases b1 with b1|b1
   ·exact .inl (n_q b1)
   ·refine .inr fun d hd hp2=>?_;rw [hd,hp2] at b1;simp only [Nat.beq_refl] at b1;cases b1
  ·rw [hd] at b2;simp only [hn,Bool.not_true,Bool.false_or,Bool.or_eq_true] at b2;rcases b2 with b2|b2
   ·exact .inl (n_q b2)
   ·cases hb:Nat.blt j i with
   |true=>rw [hb] at b2;exact .inr (.inl ⟨n_l hb,b2⟩)
   |false =>
     rw [hb] at b2
     have:¬ j < i:=fun hh=>by
      have:Nat.blt j i=true:=Nat.ble_eq_true_of_le hh;rw [this] at hb;cases hb
     by_cases hji:j=i
     ·exact .inl hji
     ·exact .inr (.inr ⟨by omega,b2⟩)
theorem Z5 (h:Ql T m o=true):∃ x y,o.op=.insert T (.tmp m) x y/\o.guard=none/\o.dst=none:=by
 unfold Ql at h;split at h
 ·rename_i t n x y h1 h2 h3;rw [b_t] at h;obtain rfl:=n_q h.1;obtain rfl:=n_q h.2;exact ⟨x,y,h1,h2,h3⟩
 ·cases h
theorem A0e (h:A2m o=some (T,m)):o.op=.makeMap T none/\o.guard=none/\o.dst=some m:=by
 unfold A2m at h;split at h
 ·rename_i T' m' h1 h2 h3;cases h;exact ⟨h1,h2,h3⟩
 ·cases h
theorem NV {ev:Ev} (hq:RH op=true) (h h':AH):aop P ev op h=aop P ev op h':=by
 unfold RH at hq;rw [Bool.or_eq_true] at hq;rcases hq with hq|hq
 ·unfold Lr at hq;split at hq
  ·rename_i c;split at hq
   ·rename_i f hc ha;show O4 P ev c h=O4 P ev c h';unfold O4;rw [hc]
   ·cases hq
  ·cases hq
 ·rw [Bool.not_eq_true',Bool.or_eq_false_iff] at hq;exact W9 hq.1 hq.2 h h'
theorem HX.same (hr:HX e h w0 w) (hn:h'.n=h.n) (ht:∀ k,k < BIG->h'.t.get k=h.t.get k):HX e h' w0 w :=
 ⟨hr.below,by rw [hn];exact hr.small,fun k x hk=>by rw [hn];exact hr.dom k x hk,fun k o hk ho=>hr.live k o hk (by rw [<- ht k hk];exact ho),fun k k' o o' g c c' hk hk' ho ho'=>hr.inj k k' o o' g c c' hk hk' (by rw [<- ht k hk];exact ho) (by rw [<- ht k' hk'];exact ho')⟩
theorem OR.perm {c:Nat × Nat} {es es':List (Value × Value)} (h:OR e w g c (.mp es)) (hp:es.Perm es'):OR e w g c (.mp es'):=by
 obtain ⟨ents,clock,h1,h2,h3,h4,h5⟩:=h;refine ⟨ents,clock,h1,fun p hp'=>h2 p (hp.mem_iff.2 hp'),fun x hx=>?_,hp.pairwise h4 (fun h=>fun e=>h e.symm),by rw [h5,hp.length_eq]⟩;obtain ⟨p,q1,q2⟩:=h3 x hx;exact ⟨p,hp.mem_iff.1 q1,q2⟩
theorem HX.perm {k:Nat} {es es':List (Value × Value)} {n:Nat} {tr:Tr AO} (hk:k < BIG) (hr:HX e ⟨tr.put k (some (.mp es)),n⟩ w0 w) (hp:es.Perm es'):HX e ⟨tr.put k (some (.mp es')),n⟩ w0 w:=by
 refine ⟨hr.below,hr.small,hr.dom,fun j o hj ho=>?_,fun j j' o o' g c c' hj hj' ho ho'=>?_⟩
 ·simp only [Tr.get_put _ _ hk hj] at ho;by_cases hjk:j=k
  ·subst hjk;rw [if_pos rfl] at ho;cases ho;obtain ⟨g,c,q1,q2,q3⟩:=hr.live j (.mp es) hj (by simp only [Tr.get_put _ _ hk hj,if_pos]);exact ⟨g,c,q1,q2,q3.perm hp⟩
  ·rw [if_neg hjk] at ho;exact hr.live j o hj (by simp only [Tr.get_put _ _ hk hj,if_neg hjk];exact ho)
 ·have key:∀ {j:Nat} {o:AO},j < BIG->(tr.put k (some (.mp es'))).get j=some o->∃ o2,(tr.put k (some (.mp es))).get j=some o2:=by
   intro j o hj ho;simp only [Tr.get_put _ _ hk hj] at ho ⊢;by_cases hjk:j=k
   ·rw [if_pos hjk];exact ⟨_,rfl⟩
   ·rw [if_neg hjk] at ho ⊢;exact ⟨o,ho⟩
  obtain ⟨o2,q1⟩:=key hj ho;obtain ⟨o3,q2⟩:=key hj' ho';exact hr.inj j j' o2 o3 g c c' hj hj' q1 q2
theorem ZT {p:Value × Value->Value × Value->Bool}:∀ {l:List (Value × Value)},xR p l=true->∀ (i j:Nat) (x y:Value × Value),i ≠ j->l[i]?=some x->l[j]?=some y->p x y=true
|[],_,i,j,x,y,_,hx,_=>by simp at hx
|z::l,h,i,j,x,y,hij,hx,hy=>by
  unfold xR at h;rw [b_t,l_t] at h;cases i with
 |zero =>
   simp only [List.getElem?_cons_zero,Option.some.injEq] at hx;subst hx;cases j with
  |zero=>exact absurd rfl hij
  |succ j =>
    have:=h.1 y (l_m (by simpa using hy));rw [b_t] at this;exact this.1
 |succ i =>
   cases j with
  |zero =>
    simp only [List.getElem?_cons_zero,Option.some.injEq] at hy;subst hy;have:=h.1 x (l_m (by simpa using hx));rw [b_t] at this;exact this.2
  |succ j=>exact ZT h.2 i j x y (by omega) (by simpa using hx) (by simpa using hy)
theorem A2c {o:AO} {x:Nat × AH} (hn:h.new o=some x) (o':AO):h.new o'=some (h.n,⟨h.t.put h.n (some o'),h.n+1⟩):=by
 unfold AH.new at hn ⊢;rw [JM] at hn ⊢;cases hb:Nat.ble h.n 16000000 with
|false=>rw [hb] at hn;cases hn
|true=>rfl
theorem YI (hm:P.follows .mixedOrders=true) (hC:∀ w0,F8 P C w0) (ht:TR e t a nt) (hr:HX e h w0 w) {t':Tm} (hx:gI P C ops nt t h=some (t',h'))
  (hQ:∀ e' a' w',e.le e'->TR e' t' a' nt->HX e' h' w0 w'->Q .normal a' w'):(Code.region id ops true).wp P Q a w:=by
 unfold gI at hx;split at hx
 case h_2=>cases hx
 rename_i o0 rest hl0;split at hx
 case h_2=>cases hx
 rename_i T m hmk;rw [YD] at hx;cases hst:Xa ops T m with
|false=>rw [hst] at hx;cases hx
|true =>
 rw [hst] at hx;simp only [cond_true] at hx;split at hx
 case h_2=>cases hx
 rename_i rs tf hrun;unfold kC at hx;generalize hps:((List.range ops.toList.length).filter (ES ops T m)).map (mpr ops rs)=ps at hx;cases hk:uP P T ps with
|false=>rw [hk] at hx;cases hx
|true =>
 rw [hk] at hx;simp only [cond_true] at hx;split at hx
 case h_2=>cases hx
 rename_i kk hh hnew;cases hx;obtain ⟨rfl,rfl,hB⟩:=AH.KH hnew;have hkB:h.n < BIG:=Nat.lt_of_succ_lt hB;obtain ⟨a3,a4,a5⟩:=Sv ht.big _ _ _ _ hrun;have hD0:∃ D0,a.defers=D0:=⟨_,rfl⟩;obtain ⟨D0,hD0⟩:=hD0;have hdr:=ht.defers;rw [hD0] at hdr
 have hmk0:Cc t' SB=Cc t SB:=by
  rcases a5 SB (by decide) with ⟨j,o',r',c2,c3,c4,c5⟩|⟨_,c2⟩
  ·obtain ⟨_,_,_,q1⟩:=a3 j o' c2;exact absurd (Nat.lt_of_lt_of_le (q1 SB c4) ht.small) (by decide)
  ·exact c2
 have hS:=X9 hst;obtain ⟨m1,m2,m3⟩:=A0e hmk;have hg0:ops.toList[0]?=some o0:=by rw [hl0];rfl
 have hins0:ES ops T m 0=false:=by
  unfold ES;rw [DL,hg0];simp only;cases hI:Ql T m o0 with
 |false=>rfl
 |true =>
   obtain ⟨x,y,q1,_⟩:=Z5 hI;rw [m1] at q1;cases q1
 have hops:∀ i o,ops.toList[i]?=some o->ops[i]?=some o:=fun i o ho=>by rw [<- a_g];exact ho
 have hwb:Gh ops=true:=by
  unfold Gh;rw [l_t];intro i hi;have hi':=List.mem_range.1 hi;have hg:ops.toList[i]?=some ops[i]:=by rw [a_g];exact Array.getElem?_eq_getElem hi'
  rw [Array.getElem?_eq_getElem hi'];simp only [Option.map_some,Option.getD_some];have:=(hS i _ hg).1;unfold P6 at this;rw [l_t] at this;rw [<- Array.all_toList,l_t];intro ed hed;have h2:=this ed hed;rw [Bool.or_eq_true] at h2 ⊢;exact h2.imp (fun q=>q) fun h3=>decide_eq_true (n_l h3)
 obtain ⟨kt,vt,hmt,k1,k2⟩:∃ kt vt,Vq P T=some (kt,vt)/\(∀ p ∈ ps,KN kt p.1=true)/\xR (fun p q=>MF p.1 q.1) ps=true:=by
  unfold uP at hk;split at hk
  ·rename_i kt vt hmt;rw [b_t,l_t] at hk;exact ⟨kt,vt,hmt,hk.1,hk.2⟩
  ·cases hk
 have hJn:((List.range ops.toList.length).filter (ES ops T m)).Nodup:=List.nodup_range.filter _
 have hJm:∀ i,i ∈ (List.range ops.toList.length).filter (ES ops T m) ↔ ES ops T m i=true:=fun i=>by
  rw [List.mem_filter,List.mem_range];refine ⟨fun h=>h.2,fun h=>⟨?_,h⟩⟩;unfold ES at h;rw [DL] at h;split at h
  ·rename_i o ho;exact (List.getElem?_eq_some_iff.1 ho).1
  ·cases h
 have hmem:∀ i,ES ops T m i=true->mpr ops rs i ∈ ps:=fun i hi=>by
  rw [<- hps];exact List.mem_map_of_mem ((hJm i).2 hi)
 have hne:∀ i j,ES ops T m i=true->ES ops T m j=true->i ≠ j->MF (mpr ops rs i).1 (mpr ops rs j).1=true:=fun i j hi hj hij=>by
  obtain ⟨pi,hpi,qi⟩:=List.getElem_of_mem ((hJm i).2 hi);obtain ⟨pj,hpj,qj⟩:=List.getElem_of_mem ((hJm j).2 hj);refine ZT k2 pi pj _ _ (fun h=>by subst h;exact hij (qi.symm.trans qj)) ?_ ?_
  ·rw [<- hps,List.getElem?_map,l_e hpi,qi];rfl
  ·rw [<- hps,List.getElem?_map,l_e hpj,qj];rfl
 refine I9 hm hwb (fun L a w=>Down ops L/\∃ (e1:En) (js:N_),e.le e1/\js.Nodup/\(∀ i,i ∈ js ↔ ES ops T m i=true/\L.getD i false=true) /\
  (L.getD 0 false=false->HX e1 h w0 w)/\(L.getD 0 false=true->HX e1 ⟨h.t.put h.n (some (.mp (js.map (mpr ops rs)))),h.n+1⟩ w0 w) /\
  (∀ s,s < SB->(∃ (j:Nat) (o:Oper) (r:CZ),ops.toList[j]?=some o/\rs[j]?=some r/\o.dst=some s/\L.getD j false=true/\VR e1 r.v (a.tmps.getD s undef))\/((∀ (j:Nat) (o:Oper),ops.toList[j]?=some o->o.dst=some s->L.getD j false=false)/\VR e1 (Cc t s) (a.tmps.getD s undef)))/\a.tmps.size=nt/\a.defers=D0) ?_ ?_ ?_
 ·
  intro L i a w hLs hready ⟨hdown,e1,js,he1,hjn,hjm,hH0,hH1,hslots,hsz,hdf⟩
  have hi:i < ops.size:=by
   unfold Region.ready at hready;rw [List.mem_filter] at hready;exact List.mem_range.1 hready.1
  have hg:ops.toList[i]?=some ops[i]:=by rw [a_g];exact Array.getElem?_eq_getElem hi
  generalize ops[i]=o at hg;obtain ⟨hLi,hdeps⟩:=Ap hLs hready (hops i o hg);have hbit:∀ j,Fp (mks ops.toList []) i j=true->L.getD j false=true:=fun j hb=>Gx hLs hdown i hg (fun ed h1 h2=>hdeps ed h1 h2) hb
  have hbit2:∀ j p',ops.toList[j]?=some p'->L.getD j false=true->Fp (mks ops.toList []) j i=true->False:=fun j p' hj hl hb=>by
   have:=Gx hLs hdown j hj (fun ed h1 h2=>hdown j p' hj hl ed h1 h2) hb;rw [this] at hLi;cases hLi
  obtain ⟨r,b1,b3,b5⟩:=a3 i o hg
  have hnames:∀ s,s < SB->PE (Dh ops o) s=true->VR e1 (Cc r.t s) (a.tmps.getD s undef):=by
   intro s hsB hn;rcases a4 i r b1 s (JC hsB) with ⟨j,o',r',c1,c2,c3,c4,c5⟩|⟨c1,c2⟩
   ·rcases hslots s hsB with ⟨j2,o2,r2,d1,d2,d3,d4,d5⟩|⟨d1,d2⟩
    ·have:j=j2:=by
      rcases ((hS j o' c2).2.2 j2 o2 d1).1 with h1|h1
      ·exact h1
      ·exact absurd d3 (h1 s c4)
     subst this;rw [c3] at d2;cases d2;rw [c5];exact d5
    ·exfalso;have h1:=d1 j o' c2 c4;rcases ((hS i o hg).2.2 j o' c2).2 s c4 hn with h2|⟨_,h2⟩|⟨h2,_⟩
     ·omega
     ·rw [hbit j h2] at h1;cases h1
     ·omega
   ·rcases hslots s hsB with ⟨j2,o2,r2,d1,d2,d3,d4,d5⟩|⟨d1,d2⟩
    ·exfalso;rcases ((hS i o hg).2.2 j2 o2 d1).2 s d3 hn with h2|⟨h2,_⟩|⟨_,h2⟩
     ·subst h2;rw [d4] at hLi;cases hLi
     ·exact c1 j2 o2 h2 d1 d3
     ·exact hbit2 j2 o2 d1 d4 h2
    ·rw [c2];exact d2
  have hev:EvR e1 (IC (Dh ops o) r.t) a:=Uf hnames;have hguard:∀ d,d ∈ Tt ops o.guard->d < SB->VR e1 (Cc r.t d) (a.tmps.getD d undef):=fun d hd hB=>hnames d hB (Za (List.mem_append.2 (.inl hd)));have hLi':i < L.size:=by rw [hLs];exact hi
  have hgs:∀ j,(L.setIfInBounds i true).getD j false=if j=i then true else L.getD j false:=fun j=>Ze hLi'
  have fin:∀ {e2:En} {js':N_} {w2:World} {u:Value},e1.le e2->VR e2 r.v u->js'.Nodup->(∀ j,j ∈ js' ↔ ES ops T m j=true/\(L.setIfInBounds i true).getD j false=true) ->
    ((L.setIfInBounds i true).getD 0 false=false->HX e2 h w0 w2)->((L.setIfInBounds i true).getD 0 false=true->HX e2 ⟨h.t.put h.n (some (.mp (js'.map (mpr ops rs)))),h.n+1⟩ w0 w2) ->
    (Down ops (L.setIfInBounds i true)/\∃ (e1:En) (js:N_),e.le e1/\js.Nodup/\(∀ j,j ∈ js ↔ ES ops T m j=true/\(L.setIfInBounds i true).getD j false=true) /\
     ((L.setIfInBounds i true).getD 0 false=false->HX e1 h w0 w2)/\((L.setIfInBounds i true).getD 0 false=true->HX e1 ⟨h.t.put h.n (some (.mp (js.map (mpr ops rs)))),h.n+1⟩ w0 w2) /\
     (∀ s,s < SB->(∃ (j:Nat) (o':Oper) (r:CZ),ops.toList[j]?=some o'/\rs[j]?=some r/\o'.dst=some s/\(L.setIfInBounds i true).getD j false=true/\VR e1 r.v ((a.put o.dst u).tmps.getD s undef))\/((∀ (j:Nat) (o':Oper),ops.toList[j]?=some o'->o'.dst=some s->(L.setIfInBounds i true).getD j false=false)/\VR e1 (Cc t s) ((a.put o.dst u).tmps.getD s undef)))/\(a.put o.dst u).tmps.size=nt/\(a.put o.dst u).defers=D0):=by
   intro e2 js' w2 u he2 hvu hn' hm' hh0 hh1;refine ⟨?_,e2,js',he1.trans he2,hn',hm',hh0,hh1,fun s hsB=>?_,by rw [NW];exact hsz,by rw [put_defers];exact hdf⟩
   ·intro j o' hj hl ed hed hb;rw [hgs];split
    ·rfl
    ·rw [hgs] at hl;split at hl
     ·rename_i hji;subst hji;rw [hg] at hj;cases hj;exact hdeps ed hed hb
     ·exact hdown j o' hj hl ed hed hb
   ·have hpg:=NY (a:=a) (d:=o.dst) (u:=u) (s:=s) (fun x hx=>Nat.lt_of_lt_of_eq (b5 x hx) hsz.symm);by_cases hds:o.dst=some s
    ·rw [if_pos hds] at hpg;refine .inl ⟨i,o,r,hg,b1,hds,by rw [hgs,if_pos rfl],?_⟩;rw [hpg];exact hvu
    ·rw [if_neg hds] at hpg;rw [hpg];rcases hslots s hsB with ⟨j2,o2,r2,d1,d2,d3,d4,d5⟩|⟨d1,d2⟩
     ·exact .inl ⟨j2,o2,r2,d1,d2,d3,by rw [hgs,d4];simp,d5.mono he2⟩
     ·refine .inr ⟨fun j o' hj hd=>?_,d2.mono he2⟩;rw [hgs];have hne2:j ≠ i:=fun h=>by subst h;rw [hg] at hj;cases hj;exact hds hd
      rw [if_neg hne2];exact d1 j o' hj hd
  by_cases hi0:i=0
  ·
   subst hi0;rw [hg0] at hg;cases hg
   have hjs:js=[]:=by
    rcases List.eq_nil_or_concat js with h1|⟨l,x,h1⟩
    ·exact h1
    ·exfalso;have hx:=(hjm x).1 (by rw [h1];simp);have hx1:=hx.1;unfold ES at hx1;rw [DL] at hx1;split at hx1
     ·rename_i o' ho';have hx0:x ≠ 0:=fun h=>by subst h;rw [hins0] at hx;exact absurd hx.1 (by simp)
      rcases (hS x o' ho').2.1 hx0 with ⟨_,q2⟩|⟨q1,_⟩
      ·exact hbit2 x o' ho' hx.2 q2
      ·rw [q1] at hx1;cases hx1
     ·cases hx1
   subst hjs;unfold iV at b3;rw [m2] at b3;have haw:OB ops r.t none=some true:=rfl;rw [haw] at b3;simp only at b3;have hme:jf P C (Dh ops o0) h.n o0.op r.t=some (.map (some h.n)):=by rw [m1];rfl
   rw [hme] at b3;injection b3 with b3;simp only [Prod.mk.injEq] at b3;refine Dx hg0 (DV (t:=r.t) hguard (by rw [m2];rfl)) fun K hK=>?_
   have hv:aop P (IC (Dh ops o0) r.t) o0.op h=some (.eff (.map (some h.n)) ⟨h.t.put h.n (some (.mp [])),h.n+1⟩):=by
    rw [m1];show tY h=_;unfold tY;rw [A2c hnew (.mp [])]
   obtain ⟨u,w',e',q1,q2,q3,q4⟩:=EP (hC w0).keyed hev (hH0 hLi) hv;refine JA q2 (hK _ _ (fin (js':=[]) q1 (by rw [<- b3.2];exact q3) List.nodup_nil (fun j=>?_) (fun h0=>?_) (fun _=>q4)))
   ·refine ⟨fun h=>by simp at h,fun ⟨h1,h2⟩=>?_⟩;rw [hgs] at h2;split at h2
    ·rename_i hj0;subst hj0;rw [hins0] at h1;cases h1
    ·exact (hjm j).2 ⟨h1,h2⟩
   ·rw [hgs,if_pos rfl] at h0;cases h0
  have hL0:(L.setIfInBounds i true).getD 0 false=L.getD 0 false:=by rw [hgs,if_neg (fun h=>hi0 h.symm)]
  rcases (hS i o hg).2.1 hi0 with ⟨hI,hb0⟩|⟨hI,hq⟩
  ·
   obtain ⟨x,y,i1,i2,i3⟩:=Z5 hI;have hinsi:ES ops T m i=true:=by unfold ES;rw [DL,hg];exact hI
   unfold iV at b3;rw [i2] at b3;have haw:OB ops r.t none=some true:=rfl;rw [haw] at b3;simp only at b3;rw [i1] at b3;unfold jf at b3;simp only at b3;split at b3
   rotate_left
   ·cases b3
   rename_i vv hvv;split at hvv
   rotate_left
   ·cases hvv
   rename_i rr kv yv hme hke hye;cases hb:Nat.beq rr h.n with
  |false=>rw [hb] at hvv;cases hvv
  |true =>
   rw [hb] at hvv;cases hvv;have hrr:=n_q hb;subst hrr;injection b3 with b3;simp only [Prod.mk.injEq] at b3;have hHH:=hH1 (hbit 0 hb0)
   have hpr:mpr ops rs i=(kv,yv):=by
    unfold mpr;rw [DL,DL,hg,b1];simp only [i1,hke,hye,RY]
   have hget:(h.t.put h.n (some (.mp (js.map (mpr ops rs))))).get h.n=some (.mp (js.map (mpr ops rs))):=by rw [Tr.get_put _ _ hkB hkB,if_pos rfl]
   have hv:aop P (IC (Dh ops o) r.t) o.op ⟨h.t.put h.n (some (.mp (js.map (mpr ops rs)))),h.n+1⟩=some (.eff undef ⟨(h.t.put h.n (some (.mp (js.map (mpr ops rs))))).put h.n (some (.mp (js.map (mpr ops rs)++[(kv,yv)]))),h.n+1⟩):=by
    rw [i1];show JF P T (IC (Dh ops o) r.t (.tmp m)) (IC (Dh ops o) r.t x) (IC (Dh ops o) r.t y) _=_;rw [hme,hke,hye];unfold JF;simp only [hget,hmt]
    have hc:(KN kt kv && (js.map (mpr ops rs)).all (fun p=>KN kt p.1) && (js.map (mpr ops rs)).all (fun p=>MF p.1 kv))=true:=by
     rw [b_t,b_t,l_t,l_t];refine ⟨⟨?_,fun p hp=>?_⟩,fun p hp=>?_⟩
     ·have:=k1 _ (hmem i hinsi);rw [hpr] at this;exact this
     ·obtain ⟨j,hj,rfl⟩:=List.mem_map.1 hp;exact k1 _ (hmem j ((hjm j).1 hj).1)
     ·obtain ⟨j,hj,rfl⟩:=List.mem_map.1 hp;have:=hne j i ((hjm j).1 hj).1 hinsi (fun h=>by subst h;have:=((hjm j).1 hj).2;rw [hLi] at this;cases this);rw [hpr] at this;exact this
    rw [hc];rfl
   refine Dx hg (DV (t:=r.t) hguard (by rw [i2];rfl)) fun K hK=>?_;obtain ⟨u,w',e',q1,q2,q3,q4⟩:=EP (hC w0).keyed hev hHH hv;refine JA q2 (hK _ _ (fin (js':=js++[i]) q1 (by rw [<- b3.2];exact q3) ?_ (fun j=>?_) (fun h0=>?_) (fun _=>?_)))
   ·refine List.nodup_append.2 ⟨hjn,by simp,fun p hp q hq hpq=>?_⟩;rw [List.mem_singleton] at hq;subst hq hpq;have:=((hjm p).1 hp).2;rw [hLi] at this;cases this
   ·rw [List.mem_append,List.mem_singleton,hjm,hgs];by_cases hji:j=i
    ·subst hji;simp [hinsi]
    ·simp [hji]
   ·rw [hL0,hbit 0 hb0] at h0;cases h0
   ·refine q4.same rfl fun k hk=>?_;simp only [Tr.get_put _ _ hkB hk,List.map_append,List.map_cons,List.map_nil,hpr];split<;>rfl
  ·
   have hinsi:ES ops T m i=false:=by unfold ES;rw [DL,hg];exact hI
   have hjm':∀ j,j ∈ js ↔ ES ops T m j=true/\(L.setIfInBounds i true).getD j false=true:=fun j=>by
    rw [hjm,hgs];by_cases hji:j=i
    ·subst hji;simp [hinsi]
    ·simp [hji]
   obtain ⟨H,hHH,hback⟩:∃ H,HX e1 H w0 w/\∀ e2 w2,HX e2 H w0 w2->((L.setIfInBounds i true).getD 0 false=false->HX e2 h w0 w2)/\((L.setIfInBounds i true).getD 0 false=true->HX e2 ⟨h.t.put h.n (some (.mp (js.map (mpr ops rs)))),h.n+1⟩ w0 w2):=by
    rw [hL0];cases hz:L.getD 0 false with
   |false=>exact ⟨h,hH0 hz,fun e2 w2 h2=>⟨fun _=>h2,fun h=>by cases h⟩⟩
   |true=>exact ⟨_,hH1 hz,fun e2 w2 h2=>⟨fun h=>(by cases h),fun _=>h2⟩⟩
   unfold iV at b3;split at b3
   ·
    rename_i hw;injection b3 with b3;simp only [Prod.mk.injEq] at b3;refine Ld hg (DV hguard hw) ?_;have hb2:=hback e1 w hHH;exact fin (En.le.refl e1) (by rw [<- b3.2];exact .undef) hjn hjm' hb2.1 hb2.2
   ·rename_i hw;split at b3
    rotate_left
    ·cases b3
    rename_i v hme;injection b3 with b3;simp only [Prod.mk.injEq] at b3;have hwant:=DV hguard hw;refine Dx hg hwant fun K hK=>?_;unfold jf at hme;split at hme
    ·rename_i hop;rw [hop] at hq;cases hq
    ·rename_i hop;rw [hop] at hq;cases hq
    rw [hq] at hme;simp only [cond_true] at hme;split at hme
    ·rename_i v2 hv;cases hp:Lr o.op with
    |true=>rw [hp] at hme;cases hme
    |false =>
      rw [hp] at hme;cases hme;rw [NV hq _ H] at hv;obtain ⟨u,q1,q2⟩:=EP (hC w0).keyed hev hHH hv;have hb2:=hback e1 w hHH;exact JA (.inl q1) (hK _ _ (fin (En.le.refl e1) (by rw [<- b3.2];exact q2) hjn hjm' hb2.1 hb2.2))
    ·rename_i f hv;cases hp:Lr o.op with
    |false=>rw [hp] at hme;cases hme
    |true =>
      rw [hp] at hme;simp only [cond_true] at hme;split at hme
      rotate_left
      ·cases hme
      rename_i v2 h1 hcall;cases hpl:Nr v2 with
     |false=>rw [hpl] at hme;cases hme
     |true =>
       rw [hpl] at hme;cases hme;rw [NV hq _ H] at hv;obtain ⟨args',q1,q2⟩:=EP (hC w0).keyed hev hHH hv;cases q2;unfold Oper.wp;rw [q1];show Calls P f (List.toArray []) w _;refine ((hC (Base.all w)).ok f [] ⟨.nil,0⟩ v h1 hcall (fun _=>none) w [] .nil (HX.nil (Base.all w))).mono ?_;rintro z w' ⟨u,e',rfl,z1,z2,z3⟩;have hb2:=hback e1 w' (hHH.rest z3);exact hK _ _ (fin (En.le.refl e1) (by rw [<- b3.2];exact Ve hpl z2) hjn hjm' hb2.1 hb2.2)
    ·cases hme
   ·cases b3
 ·
  intro L a w hall ⟨hdown,e1,js,he1,hjn,hjm,hH0,hH1,hslots,hsz,hdf⟩;have hjs:∀ {j:Nat} {o':Oper},ops.toList[j]?=some o'->L.getD j false=true:=fun hj=>hall _ (by have:=(List.getElem?_eq_some_iff.1 hj).1;rw [Array.length_toList] at this;exact this)
  have hperm:js.Perm ((List.range ops.toList.length).filter (ES ops T m)):=by
   refine (List.perm_ext_iff_of_nodup hjn hJn).2 fun j=>?_;rw [hjm,hJm];refine ⟨fun h=>h.1,fun h=>⟨h,?_⟩⟩;unfold ES at h;rw [DL] at h;split at h
   ·rename_i o' ho';exact hjs ho'
   ·cases h
  have hHf:=(hH1 (hjs hg0)).perm hkB (hperm.map (mpr ops rs));rw [hps] at hHf;refine hQ e1 a w he1 ⟨fun s hsB=>?_,hsz,ht.small,by rw [hdf,hmk0];exact hdr.mono he1⟩ hHf;rcases a5 s (JC hsB) with ⟨j,o',r',c2,c3,c4,c5⟩|⟨c1,c2⟩
  ·rcases hslots s hsB with ⟨j2,o2,r2,d1,d2,d3,d4,d5⟩|⟨d1,d2⟩
   ·have:j=j2:=by
     rcases ((hS j o' c2).2.2 j2 o2 d1).1 with h1|h1
     ·exact h1
     ·exact absurd d3 (h1 s c4)
    subst this;rw [c3] at d2;cases d2;rw [c5];exact d5
   ·have:=d1 j o' c2 c4;rw [hjs c2] at this;cases this
  ·rcases hslots s hsB with ⟨j2,o2,r2,d1,d2,d3,d4,d5⟩|⟨d1,d2⟩
   ·exact absurd d3 (c1 j2 o2 d1)
   ·rw [c2];exact d2
 ·
  have h0:∀ j,(Array.replicate ops.size false).getD j false=false:=fun j=>by
   by_cases hj:j < ops.size<;>simp [hj]
  refine ⟨fun j o' _ hl=>(by rw [h0] at hl;cases hl),e,[],En.le.refl e,List.nodup_nil,fun j=>?_,fun _=>hr.drawn,fun h1=>(by rw [h0] at h1;cases h1),fun s hsB=>.inr ⟨fun j o' _ _=>h0 j,ht.slots s hsB⟩,ht.size,hD0⟩;rw [h0];simp
theorem eP (hm:P.follows .mixedOrders=true) (hC:∀ w0,F8 P C w0) (ht:TR e t a nt) (hr:HX e h w0 w) {t':Tm} (hx:Wn P C ops nt t h=some (t',h'))
  (hQ:∀ e' a' w',e.le e'->TR e' t' a' nt->HX e' h' w0 w'->Q .normal a' w'):(Code.region id ops true).wp P Q a w:=by
 cases hst:Zt ops with
|true=>exact Zw hst hm hC ht hr hx hQ
|false =>
  unfold Wn at hx;rw [hst] at hx;exact YI hm hC ht hr hx hQ
end
end Go.Proofs.YtkpbhdhkdonghaaGreat
