/-
  Part 34 of the proof.
-/
import Derived.Test.YtkpbhdhkdonghaaGreatA04
import Derived.Test.YtkpbhdhkdonghaaGreatA33
set_option linter.all false
namespace Go.Proofs.YtkpbhdhkdonghaaGreat
open Go Go.RowKit
variable {h':AH} {r:Uu} {b:Bool} {e':En} {Q:Exit->P_} {i:Nat} {u:Value} {w':World}
section
variable {P:Program} {e:En} {h:AH} {w0:Base} {w:World} {a:Act} {o:Oper} {t:Tm} {nt:Nat} {ops:O_} {C:Et}
theorem JC (h:i < SB):i < BIG:=by
 have:SB=1500000:=rfl;show i < 16777216;omega
def DR (e:En) (v:Value) (ds:List Deferred):Prop:=∃ ks:List (Nat × Nat),v=.tuple (ks.map fun k=>Value.map (some k.1)).toArray/\ds=ks.map (fun k=>{ target:=.collected k.2,args:=#[] })/\∀ k ∈ ks,∃ c,e k.1=some (k.2,c)
theorem DR.nil {e:En}:DR e undef []:=⟨[],rfl,rfl,fun k h=>by cases h⟩
theorem DR.mono {e:En} {v:Value} {ds:List Deferred} (he:e.le e') (h:DR e v ds):DR e' v ds:=by
 obtain ⟨ks,h1,h2,h3⟩:=h;exact ⟨ks,h1,h2,fun k hk=>(h3 k hk).imp fun c hc=>he _ _ hc⟩
structure TR (e:En) (t:Tm) (a:Act) (nt:Nat):Prop where
 slots:∀ i,i < SB->VR e (Cc t i) (a.tmps.getD i undef)
 size:a.tmps.size=nt
 small:nt<=1000000
 defers:DR e (Cc t SB) a.defers
theorem TR.big (h:TR e t a nt):nt < BIG:=by
 have:=h.small;show nt < 16777216;omega
theorem TR.mono {e e':En} (he:e.le e') (h:TR e t a nt):TR e' t a nt:=⟨fun i hi=>(h.slots i hi).mono he,h.size,h.small,h.defers.mono he⟩
theorem YW (h:Nat.ble i 1000000=true):i < SB:=by
 have:=n_l h;show i < 1500000;omega
theorem LM (h:TR e t a nt):EvR e (aev t) a:=by
 intro x v hx;cases x with
|tmp i =>
  cases hb:Nat.ble i 1000000 with
 |false =>
   have:aev t (.tmp i)=none:=by simp [aev,cv,hb]
   rw [this] at hx;cases hx
 |true =>
   have:aev t (.tmp i)=some (Cc t i):=by simp [aev,cv,hb,Cc,Tr.get]
   rw [this] at hx;cases hx;exact h.slots i (YW hb)
|const v' =>
  cases hb:BM v' with
 |false =>
   have:aev t (.const v')=none:=by simp [aev,cv,hb]
   rw [this] at hx;cases hx
 |true =>
   have:aev t (.const v')=some v':=by simp [aev,cv,hb]
   rw [this] at hx;cases hx;exact GN hb
|global g=>cases hx
|func f=>cases hx;exact .func (.func f) (a:=[]) (b:=[]) .nil .nil
theorem FP {t:Tm} {d:Nat} {v:Value} (hd:d < BIG) (hi:i < BIG):Cc (t.put d (some v)) i=if i=d then v else Cc t i:=by
 unfold Cc;rw [Tr.get_put _ _ hd hi];split<;>rfl
theorem TR.put (h:TR e t a nt) {d:Nat} {v u:Value} (hd:d < nt) (hv:VR e v u):TR e (t.put d (some v)) (a.put (some d) u) nt:=by
 have hdB:d < BIG:=Nat.lt_trans hd h.big
 have hds:SB ≠ d:=by
  have h1:=h.small;have h2:SB=1500000:=rfl;omega
 refine ⟨fun i hi=>?_,by simp only [Act.put,Array.size_setIfInBounds];exact h.size,h.small,by rw [FP hdB (by decide),if_neg hds];exact h.defers⟩;rw [FP hdB (JC hi)];simp only [Act.put];by_cases hid:i=d
 ·subst hid;rw [if_pos rfl]
  have:(a.tmps.setIfInBounds i u).getD i undef=u:=by
   have:=h.size;simp [show i < a.tmps.size by omega]
  rw [this];exact hv
 ·rw [if_neg hid]
  have:(a.tmps.setIfInBounds d u).getD i undef=a.tmps.getD i undef:=by
   simp [Array.getElem?_setIfInBounds_ne (fun e=>hid e.symm)]
  rw [this];exact h.slots i hi
theorem Uh {t':Tm} {d:Option Tmp} {v:Value} (ht:TR e t a nt) (hv:VR e v u) (hx:gG nt t d v h=some (t',h')):TR e t' (a.put d u) nt/\h'=h:=by
 cases d with
|none=>cases hx;exact ⟨ht,rfl⟩
|some d =>
  have hx':cond (Nat.ble (Nat.succ d) nt) (some (t.put d (some v),h)) none=some (t',h'):=hx;cases hb:Nat.ble (Nat.succ d) nt with
 |false=>rw [hb] at hx';cases hx'
 |true=>rw [hb] at hx';cases hx';exact ⟨ht.put (n_l hb) hv,rfl⟩
theorem DV (ht:∀ d,d ∈ Tt ops o.guard->d < SB->VR e (Cc t d) (a.tmps.getD d undef)) (hx:OB ops t o.guard=some b):Region.wanted o (yielded ops a.tmps)=b:=by
 unfold OB at hx;unfold Region.wanted;split at hx
 ·rename_i hg;rw [hg];cases hx;rfl
 ·rename_i j want hg;rw [hg];simp only;unfold yielded;split at hx
  ·rename_i p hp;split at hx
   ·rename_i d hd;cases hb:Nat.ble d 1000000 with
   |false=>rw [hb] at hx;cases hx
   |true =>
     rw [hb] at hx;cases hx;rw [hp];simp only [Option.bind_some,hd];have hv:=ht d (by rw [hg];simp [Tt,hp,hd]) (YW hb);cases hq:a.tmps[d]? with
    |none =>
      have:a.tmps.getD d undef=undef:=by simp [hq]
      rw [this] at hv;generalize Cc t d=y at hv;unfold undef at hv;cases hv;rfl
    |some u =>
      have:a.tmps.getD d undef=u:=by simp [hq]
      rw [this] at hv;generalize Cc t d=y at hv;cases hv<;>first|rfl|(simp [isB];done)|skip
      all_goals (rename_i b;cases b<;>cases want<;>rfl)
   ·rename_i hd;cases hx;rw [hp];simp [hd]
  ·rename_i hp;cases hx;rw [hp];rfl
structure F8 (P:Program) (C:Et) (w0:Base):Prop where
 keyed:G6 P
 ok:∀ f args h v h',C f args h=some (v,h')->∀ e w args',VRs e args args'->HX e h w0 w ->
  Calls P f args'.toArray w fun x w'=>∃ u e',x=.returned u/\e.le e'/\VR e' v u/\HX e' h' w0 w'
theorem JA {K:P_} (hr:(execOp a.eval o).run P w=.ok (.value u) w'\/((execOp a.eval o).run P w=.ok .skip w'/\u=undef)) (h:K (a.put o.dst u) w'):o.wp P a w K Q:=by
 rcases hr with hr|⟨hr,rfl⟩
 ·unfold Oper.wp;rw [hr];exact h
 ·unfold Oper.wp;rw [hr];exact h
theorem gB {K:P_} (hC:F8 P C w0) {t':Tm} (hr:HX e h w0 w) (hR:Rs P a o w0 w e h r)
  (hx:A2T C nt t o.dst h r=some (t',h'))
  (hK:∀ v u w' e' h2,e.le e'->VR e' v u->HX e' h2 w0 w'->gG nt t o.dst v h2=some (t',h')->K (a.put o.dst u) w'):o.wp P a w K Q:=by
 cases r with
|val v =>
  obtain ⟨u,h1,h2⟩:=hR;exact JA (.inl h1) (hK v u w e h (En.le.refl e) h2 hr hx)
|eff v h2 =>
  obtain ⟨u,w',e',h1,h3,h4,h5⟩:=hR;exact JA h3 (hK v u w' e' h2 h1 h4 h5 hx)
|call f args =>
  obtain ⟨args',h1,h2⟩:=hR;have hx':A1v nt t o.dst (C f args h)=some (t',h'):=hx;cases hc:C f args h with
 |none=>rw [hc] at hx';cases hx'
 |some p =>
   obtain ⟨v,h3⟩:=p;rw [hc] at hx';unfold Oper.wp;rw [h1];show Calls P f args'.toArray w _;refine (hC.ok f args h v h3 hc e w args' h2 hr).mono ?_;rintro x w' ⟨u,e',rfl,a1,a2,a3⟩;exact hK v u w' e' h3 a1 a2 a3 hx'
theorem Qu {K:P_} (hC:F8 P C w0) {t':Tm} (ht:TR e t a nt) (hr:HX e h w0 w) (hx:U7 P C ops nt o t h=some (t',h'))
  (hK:∀ e' a' w',e.le e'->TR e' t' a' nt->HX e' h' w0 w'->K a' w'):if Region.wanted o (yielded ops a.tmps) then o.wp P a w K Q else K (a.put o.dst undef) w:=by
 unfold U7 at hx;cases hw:OB ops t o.guard with
|none=>rw [hw] at hx;cases hx
|some b =>
  rw [hw] at hx;rw [DV (fun d _ hd=>ht.slots d hd) hw];cases b with
 |false =>
   have hx':gG nt t o.dst undef h=some (t',h'):=hx;obtain ⟨h1,rfl⟩:=Uh ht .undef hx';exact hK e _ w (En.le.refl e) h1 hr
 |true =>
   simp only [if_true];have hx':Option.rec (motive:=fun _=>Option (Tm × AH)) none (fun r=>A2T C nt t o.dst h r) (aop P (aev t) o.op h)=some (t',h'):=hx;cases ha:aop P (aev t) o.op h with
  |none=>rw [ha] at hx';cases hx'
  |some r =>
    rw [ha] at hx';refine gB hC hr (EP hC.keyed (LM ht) hr ha) hx' ?_;intro v u w' e' h2 h1 h3 h4 h5;obtain ⟨h6,rfl⟩:=Uh (ht.mono h1) h3 h5;exact hK e' _ w' h1 h6 h4
theorem VZ {Q:Exit->P_} (hC:F8 P C w0):∀ (l:Q_) (t:Tm) (h:AH) (t':Tm) (h':AH),fU P C ops nt l t h=some (t',h')->∀ e a w,TR e t a nt->HX e h w0 w ->
  (∀ e' a' w',e.le e'->TR e' t' a' nt->HX e' h' w0 w'->Q .normal a' w')->wpList P ops Q l a w
|[],t,h,t',h',hx,e,a,w,ht,hr,hQ=>by
  cases hx;exact wpList_nil (hQ e a w (En.le.refl e) ht hr)
|o::l,t,h,t',h',hx,e,a,w,ht,hr,hQ=>by
  have hx':Option.rec (motive:=fun _=>Option (Tm × AH)) none (fun p=>Prod.rec (motive:=fun _=>Option (Tm × AH)) (fun t2 h2=>fU P C ops nt l t2 h2) p) (U7 P C ops nt o t h)=some (t',h'):=hx;cases hs:U7 P C ops nt o t h with
 |none=>rw [hs] at hx';cases hx'
 |some p =>
   obtain ⟨t2,h2⟩:=p;rw [hs] at hx';refine wpList_step fun K hK=>Qu hC ht hr hs ?_;intro e' a' w' h1 h3 h4;exact hK _ _ (VZ hC l t2 h2 t' h' hx' e' a' w' h3 h4 fun e2 a2 w2 q1 q2 q3=>hQ e2 a2 w2 (h1.trans q1) q2 q3)
end
variable {h':AH} {L:Array Bool} {b:Bool} {i k:Nat}
section
variable {P:Program} {e:En} {h:AH} {w0:Base} {w:World} {a:Act} {o:Oper} {t:Tm} {nt:Nat} {ops:O_} {C:Et}
theorem PW {α:Type} {p:Nat->α->Bool} {y:α} {l:List α}:allI p (y::l) k=(p k y && allI p l (k+1)):=by
 show cond (p k y) (allI p l (Nat.add k 1)) false=_;cases p k y<;>rfl
theorem Jt {α:Type} {p:Nat->α->Bool}:∀ (l:List α) (k:Nat),allI p l k=true->∀ i x,l[i]?=some x->p (k+i) x=true
|[],k,h,i,x,hx=>by simp at hx
|y::l,k,h,0,x,hx=>by
  simp only [List.getElem?_cons_zero,Option.some.injEq] at hx;subst hx;rw [PW,b_t] at h;exact h.1
|y::l,k,h,i+1,x,hx=>by
  rw [PW,b_t] at h;have:=Jt l _ h.2 i x (by simpa using hx);rw [show k+1+i=k+(i+1) by omega] at this;exact this
theorem jy (M:N_) (i:Nat):wC M i=M.getD i 0:=by
 unfold wC;rw [DL,List.getD_eq_getElem?_getD];cases M[i]?<;>rfl
theorem ZM (M:N_) (i j:Nat):Fp M i j=(M.getD i 0).testBit j:=by
 unfold Fp;rw [jy,Nat.testBit_eq_decide_div_mod_eq]
 have h1:Nat.land (Nat.shiftRight (M.getD i 0) j) 1=(M.getD i 0) / 2 ^ j % 2:=by
  have e1:Nat.shiftRight (M.getD i 0) j=(M.getD i 0) / 2 ^ j:=Nat.shiftRight_eq_div_pow _ _;rw [e1];exact Nat.and_one_is_mod _
 rw [h1];rcases Nat.mod_two_eq_zero_or_one ((M.getD i 0) / 2 ^ j) with h|h<;>rw [h]<;>rfl
theorem YE (acc:N_):∀ es:List Edge,YF acc es=Nv acc es
|[]=>rfl
|e::es=>by
  show cond (Region.binds .any e) (Nat.lor (YF acc es) (Nat.lor (Nat.pow 2 e.on) (wC acc e.on))) (YF acc es)=cond (Region.binds .any e) (Nat.lor (Nv acc es) (Nat.lor (Nat.pow 2 e.on) (acc.getD e.on 0))) (Nv acc es);rw [YE acc es,jy]
theorem QT:∀ (l:Q_) (acc:N_),uO l acc=mks l acc
|[],_=>rfl
|o::l,acc=>by
  show uO l (app acc [YF acc o.after.toList])=mks l (acc++[Nv acc o.after.toList]);rw [QT l,Gs,YE]
theorem Sz {acc:N_}:∀ (es:List Edge) (j:Nat),(Nv acc es).testBit j=true->∃ ed ∈ es,Region.binds .any ed=true/\(ed.on=j\/(acc.getD ed.on 0).testBit j=true)
|[],j,h=>by simp [Nv] at h
|ed::es,j,h=>by
  unfold Nv at h;cases hb:Region.binds .any ed with
 |false =>
   rw [hb] at h;obtain ⟨x,h1,h2⟩:=Sz es j h;exact ⟨x,by simp [h1],h2⟩
 |true =>
   rw [hb] at h;have h':((Nv acc es) ||| ((2 ^ ed.on) ||| (acc.getD ed.on 0))).testBit j=true:=h;rw [Nat.testBit_or,Nat.testBit_or,Bool.or_eq_true,Bool.or_eq_true] at h';rcases h' with h'|h'|h'
   ·obtain ⟨x,h1,h2⟩:=Sz es j h';exact ⟨x,by simp [h1],h2⟩
   ·exact ⟨ed,by simp,hb,.inl (by rw [Nat.testBit_two_pow] at h';simpa using h')⟩
   ·exact ⟨ed,by simp,hb,.inr h'⟩
theorem iY:∀ (l:Q_) (acc:N_),∃ r,mks l acc=acc++r/\r.length=l.length/\∀ k o,l[k]?=some o->(mks l acc)[acc.length+k]?=some (Nv ((mks l acc).take (acc.length+k)) o.after.toList)
|[],acc=>⟨[],by simp [mks],rfl,fun k o h=>by simp at h⟩
|o::l,acc=>by
  obtain ⟨r,h1,h2,h3⟩:=iY l (acc++[Nv acc o.after.toList]);have hm:mks (o::l) acc=mks l (acc++[Nv acc o.after.toList]):=rfl;rw [hm];refine ⟨Nv acc o.after.toList::r,by rw [h1];simp,by simp [h2],fun k o' hk=>?_⟩;cases k with
 |zero =>
   simp only [List.getElem?_cons_zero,Option.some.injEq] at hk;subst hk;rw [h1];simp
 |succ k =>
   have:=h3 k o' (by simpa using hk);rw [List.length_append,List.length_singleton,show acc.length+1+k=acc.length+(k+1) by omega] at this;exact this
theorem oz {j:Nat} (ho:ops.toList[i]?=some o) (hb:Fp (mks ops.toList []) i j=true):∃ ed ∈ o.after.toList,Region.binds .any ed=true/\(ed.on=j\/(ed.on < i/\Fp (mks ops.toList []) ed.on j=true)):=by
 obtain ⟨r,h1,h2,h3⟩:=iY ops.toList [];have h4:=h3 i o ho;simp only [List.length_nil,Nat.zero_add] at h4;rw [ZM] at hb;rw [List.getD_eq_getElem?_getD,h4] at hb;obtain ⟨ed,h5,h6,h7⟩:=Sz _ _ hb;refine ⟨ed,h5,h6,h7.imp id fun h8=>?_⟩;by_cases hlt:ed.on < i
 ·refine ⟨hlt,?_⟩;rw [ZM];rw [List.getD_eq_getElem?_getD] at h8 ⊢;rwa [List.getElem?_take_of_lt hlt] at h8
 ·rw [List.getD_eq_getElem?_getD,List.getElem?_take_eq_none (by omega)] at h8;simp at h8
def Down (ops:O_) (L:Array Bool):Prop:=∀ i o,ops.toList[i]?=some o->L.getD i false=true->∀ ed ∈ o.after.toList,Region.binds .any ed=true->L.getD ed.on false=true
theorem wE (h:L.getD i false=true):i < L.size:=by
 rcases Nat.lt_or_ge i L.size with h1|h1
 ·exact h1
 ·simp [Array.getElem?_eq_none h1] at h
theorem Gx (hs:L.size=ops.size) (hd:Down ops L):∀ (i:Nat) {j:Nat} {o:Oper},ops.toList[i]?=some o->(∀ ed ∈ o.after.toList,Region.binds .any ed=true->L.getD ed.on false=true)->Fp (mks ops.toList []) i j=true->L.getD j false=true:=by
 intro i
 induction i using Nat.strongRecOn with
|_ i ih =>
  intro j o ho hdeps hb;obtain ⟨ed,h1,h2,h3⟩:=oz ho hb;have h4:=hdeps ed h1 h2;rcases h3 with rfl|⟨h5,h6⟩
  ·exact h4
  ·have hlt:=wE h4;have hlt':ed.on < ops.toList.length:=by rw [Array.length_toList,<- hs];exact hlt
   exact ih ed.on h5 (l_e hlt') (fun ed' h7 h8=>hd ed.on _ (l_e hlt') h4 ed' h7 h8) h6
theorem GU (l:Q_):Bf l 0=0:=by cases l<;>rfl
theorem FC (o:Oper) (l:Q_) (n:Nat):Bf (o::l) (n+1)=Bf l n+(if Bc o.op then 1 else 0):=by
 show cond (Bc o.op) (Bf l n+1) (Bf l n)=_;cases Bc o.op<;>simp
theorem J3:∀ (l:Q_) (i:Nat) (o:Oper),l[i]?=some o->Bf l (i+1)=Bf l i+(if Bc o.op then 1 else 0)
|[],i,o,h=>by simp at h
|o'::l,0,o,h=>by
  simp only [List.getElem?_cons_zero,Option.some.injEq] at h;subst h;rw [FC,GU,GU]
|o'::l,i+1,o,h=>by
  rw [FC,FC,J3 l i o (by simpa using h)];omega
theorem ZC (l:Q_) {j:Nat} (h:i<=j) (hj:j<=l.length):Bf l i<=Bf l j:=by
 induction j with
|zero=>obtain rfl:i=0:=(by omega);exact Nat.le_refl _
|succ j ih =>
  rcases Nat.lt_or_ge i (j+1) with h1|h1
  ·have:=ih (by omega) (by omega);rw [J3 l j l[j] (l_e (by omega))];omega
  ·obtain rfl:i=j+1:=by omega
   exact Nat.le_refl _
theorem VL (l:Q_) {j:Nat} {o:Oper} (ho:l[i]?=some o) (he:Bc o.op=true) (h:i < j) (hj:j<=l.length):Bf l i < Bf l j:=by
 have h1:=J3 l i o ho;rw [he] at h1;have h2:=ZC l (show i+1<=j by omega) hj;simp at h1;omega
theorem GV (l:Q_) {p:Nat}:∀ (i:Nat),i<=l.length->p < Bf l i->∃ j o,j < i/\l[j]?=some o/\Bc o.op=true/\Bf l j=p
|0,_,h=>by rw [GU] at h;omega
|i+1,hi,h=>by
  have hg:=l_e (show i < l.length by omega);have h1:=J3 l i _ hg;rcases Nat.lt_or_ge p (Bf l i) with h2|h2
  ·obtain ⟨j,o,h3,h4⟩:=GV l i (by omega) h2;exact ⟨j,o,by omega,h4⟩
  ·cases he:Bc (l[i]).op with
  |false=>rw [he] at h1;simp at h1;omega
  |true=>rw [he] at h1;simp at h1;exact ⟨i,_,by omega,hg,he,by omega⟩
theorem LG {d:Option Tmp} {v:Value} {t':Tm} (hx:UW nt t d v=some t'):(d=none/\t'=t)\/∃ s,d=some s/\s < nt/\t'=t.put s (some v):=by
 unfold UW at hx;split at hx
 ·cases hx;exact .inl ⟨rfl,rfl⟩
 ·rename_i s;cases hb:Nat.ble (Nat.succ s) nt with
 |false=>rw [hb] at hx;cases hx
 |true=>rw [hb] at hx;cases hx;exact .inr ⟨s,rfl,n_l hb,rfl⟩
theorem Xp {v:Value} (hx:GZ P C ops o t h=some (b,v,h')) (he:Bc o.op=false):h'=h:=by
 unfold GZ at hx;split at hx
 ·cases hx;rfl
 ·unfold jH at hx;rw [he] at hx;split at hx
  ·rename_i x y hd;cases hx;split at hd
   ·cases hd;rfl
   ·cases hd
   ·cases hd
   ·cases hd
  ·cases hx
 ·cases hx
theorem Zu:∀ (l:Q_) (t:Tm) (h:AH),jD P C ops nt l t h=wR P C ops nt l t h
|[],_,_=>rfl
|o::l,t,h=>by
  have h0:jD P C ops nt (o::l) t h=Option.rec (motive:=fun _=>Option (List CZ × List AH × Tm)) none
   (fun p=>Prod.rec (motive:=fun _=>Option (List CZ × List AH × Tm)) (fun b q=>Prod.rec (motive:=fun _=>Option (List CZ × List AH × Tm)) (fun v h' =>
    Option.rec (motive:=fun _=>Option (List CZ × List AH × Tm)) none (fun t'=>jG ⟨t,b,v⟩ (Bc o.op) h' (jD P C ops nt l t' (cond (Bc o.op) h' h))) (UW nt t o.dst v)) q) p)
   (GZ P C ops o t h):=rfl
  rw [h0];unfold wR;cases GZ P C ops o t h with
 |none=>rfl
 |some p =>
   obtain ⟨b,v,h'⟩:=p;simp only;cases UW nt t o.dst v with
  |none=>rfl
  |some t'=>simp only [Zu l]
theorem TK (hnt:nt < BIG):∀ (l:Q_) (t:Tm) (h:AH) (rs:List CZ) (hs:List AH) (tf:Tm),wR P C ops nt l t h=some (rs,hs,tf) ->
  rs.length=l.length/\hs.length=Bf l l.length /\
  (∀ (i:Nat) (o:Oper),l[i]?=some o->∃ (r:CZ) (hi hi':AH),rs[i]?=some r/\(h::hs)[Bf l i]?=some hi/\GZ P C ops o r.t hi=some (r.want,r.v,hi')/\(Bc o.op=true->(h::hs)[Bf l i+1]?=some hi')/\∀ d,o.dst=some d->d < nt) /\
  (∀ (i:Nat) (r:CZ),rs[i]?=some r->∀ s,s < BIG->(∃ (j:Nat) (o':Oper) (r':CZ),j < i/\l[j]?=some o'/\rs[j]?=some r'/\o'.dst=some s/\Cc r.t s=r'.v)\/((∀ (j:Nat) (o':Oper),j < i->l[j]?=some o'->o'.dst ≠ some s)/\Cc r.t s=Cc t s)) /\
  (∀ s,s < BIG->(∃ (j:Nat) (o':Oper) (r':CZ),l[j]?=some o'/\rs[j]?=some r'/\o'.dst=some s/\Cc tf s=r'.v)\/((∀ (j:Nat) (o':Oper),l[j]?=some o'->o'.dst ≠ some s)/\Cc tf s=Cc t s))
|[],t,h,rs,hs,tf,hx=>by
  cases hx;exact ⟨rfl,rfl,fun i o ho=>by simp at ho,fun i r hr=>by simp at hr,fun s _=>.inr ⟨fun j o ho=>by simp at ho,rfl⟩⟩
|o::l,t,h,rs,hs,tf,hx=>by
  unfold wR at hx;split at hx
  ·rename_i b v h' hstep;split at hx
   ·rename_i t' hput;unfold jG at hx;split at hx
    ·rename_i rs' hs' tf' hrec;cases hx;obtain ⟨a1,a2,a3,a4,a5⟩:=TK hnt l t' _ rs' hs' tf hrec;have hH:(cond (Bc o.op) h' h::hs')[0]?=some (cond (Bc o.op) h' h):=rfl;have hkeep:Bc o.op=false->h'=h:=Xp hstep
     have htail:∀ (n:Nat) (x:AH),(cond (Bc o.op) h' h::hs')[n]?=some x->(h::cond (Bc o.op) (h'::hs') hs')[n+(if Bc o.op then 1 else 0)]?=some x:=by
      intro n x hn;cases he:Bc o.op with
     |true=>rw [he] at hn;simpa using hn
     |false=>rw [he] at hn;simpa using hn
     have hslot:∀ s,s < BIG->(o.dst=some s/\Cc t' s=v)\/(o.dst ≠ some s/\Cc t' s=Cc t s):=by
      intro s hs;rcases LG hput with ⟨h1,rfl⟩|⟨d,h1,h2,rfl⟩
      ·exact .inr ⟨by rw [h1];simp,rfl⟩
      ·rw [FP (Nat.lt_trans h2 hnt) hs];by_cases hsd:s=d
       ·subst hsd;exact .inl ⟨h1,by simp⟩
       ·exact .inr ⟨by rw [h1];simp;exact fun e=>hsd e.symm,by simp [hsd]⟩
     refine ⟨by simp [a1],?_,?_,?_,?_⟩
     ·rw [List.length_cons,FC];cases he:Bc o.op with
     |true=>simp [a2]
     |false=>simp [a2]
     ·intro i o2 ho2;cases i with
     |zero =>
       simp only [List.getElem?_cons_zero,Option.some.injEq] at ho2;subst ho2;refine ⟨_,h,h',rfl,by rw [GU];rfl,hstep,fun he=>?_,fun d hd=>?_⟩
       ·rw [GU];rw [he];rfl
       ·rcases LG hput with ⟨h1,_⟩|⟨d',h1,h2,_⟩
        ·rw [h1] at hd;cases hd
        ·rw [h1] at hd;cases hd;exact h2
     |succ i =>
       obtain ⟨r,hi,hi',b1,b2,b3,b4,b5⟩:=a3 i o2 (by simpa using ho2);refine ⟨r,hi,hi',by simpa using b1,?_,b3,fun he=>?_,b5⟩
       ·rw [FC];exact htail _ _ b2
       ·have:=htail _ _ (b4 he);rw [FC];rw [show Bf l i+(if Bc o.op=true then 1 else 0)+1=Bf l i+1+(if Bc o.op=true then 1 else 0) by omega];exact this
     ·intro i r hr s hs;cases i with
     |zero =>
       simp only [List.getElem?_cons_zero,Option.some.injEq] at hr;subst hr;exact .inr ⟨fun j o' hj=>by omega,rfl⟩
     |succ i =>
       rcases a4 i r (by simpa using hr) s hs with ⟨j,o',r',c1,c2,c3,c4,c5⟩|⟨c1,c2⟩
       ·exact .inl ⟨j+1,o',r',by omega,by simpa using c2,by simpa using c3,c4,c5⟩
       ·rcases hslot s hs with ⟨d1,d2⟩|⟨d1,d2⟩
        ·exact .inl ⟨0,o,_,by omega,rfl,rfl,d1,c2.trans d2⟩
        ·refine .inr ⟨fun j o' hj ho'=>?_,c2.trans d2⟩;cases j with
        |zero=>simp only [List.getElem?_cons_zero,Option.some.injEq] at ho';subst ho';exact d1
        |succ j=>exact c1 j o' (by omega) (by simpa using ho')
     ·intro s hs;rcases a5 s hs with ⟨j,o',r',c2,c3,c4,c5⟩|⟨c1,c2⟩
      ·exact .inl ⟨j+1,o',r',by simpa using c2,by simpa using c3,c4,c5⟩
      ·rcases hslot s hs with ⟨d1,d2⟩|⟨d1,d2⟩
       ·exact .inl ⟨0,o,_,rfl,rfl,d1,c2.trans d2⟩
       ·refine .inr ⟨fun j o' ho'=>?_,c2.trans d2⟩;cases j with
       |zero=>simp only [List.getElem?_cons_zero,Option.some.injEq] at ho';subst ho';exact d1
       |succ j=>exact c1 j o' (by simpa using ho')
    ·cases hx
   ·cases hx
  ·cases hx
theorem Vw:∀ (h:AH) (hs:List AH),(h::hs)[hs.length]?=some (lastH h hs)
|h,[]=>rfl
|h,g::hs=>by
  have:=Vw g hs;simpa [lastH] using this
end
variable {h' h1:AH} {L:Array Bool} {e1:En} {Q:Exit->P_} {i id n s:Nat} {op:Op} {b u:Value} {w':World}
def Base.with (w0:Base) {w:World} (h0:Held w0 w) (F:Nat->Prop) (hF:∀ g,F g->g < w.heap.size):Base :=
 ⟨w,fun g=>w0.K g\/F g,fun g hg=>hg.elim (fun hk=>Nat.lt_of_lt_of_le (w0.lt g hk) h0.size) (hF g)⟩
theorem HX.guard {e:En} {h:AH} {w0:Base} {w:World} (hr:HX e h w0 w) {F:Nat->Prop} (hF:∀ g,F g->g < w.heap.size) (hn:∀ k o g c,k < BIG->h.t.get k=some o->e k=some (g,c)->¬ F g):HX e h (w0.with hr.below F hF) w:=by
 refine ⟨Held.refl (w0.with hr.below F hF),hr.small,hr.dom,fun k o hk ho=>?_,hr.inj⟩;obtain ⟨g,c,q1,q2,q3⟩:=hr.live k o hk ho;exact ⟨g,c,q1,fun h=>h.elim q2 (hn k o g c hk ho q1),q3⟩
theorem HX.NR {e:En} {h:AH} {w0:Base} {w:World} (hr:HX e h w0 w) {F:Nat->Prop} {hF:∀ g,F g->g < w.heap.size} (h2:HX e1 h1 (w0.with hr.below F hF) w'):HX e1 h1 w0 w'/\∀ g,F g->w'.heap[g]?=w.heap[g]?:=by
 refine ⟨⟨⟨h2.below.os.trans hr.below.os,h2.below.tape.trans hr.below.tape,h2.below.output.trans hr.below.output,Nat.le_trans hr.below.size h2.below.size,fun k hk=>(h2.below.block k (.inl hk)).trans (hr.below.block k hk)⟩,h2.small,h2.dom,fun k o hk ho=>?_,h2.inj⟩,fun g hg=>h2.below.block g (.inr hg)⟩;obtain ⟨g,c,q1,q2,q3⟩:=h2.live k o hk ho;exact ⟨g,c,q1,fun h=>q2 (.inl h),q3⟩
section
variable {P:Program} {e:En} {h:AH} {w0:Base} {w:World} {a:Act} {o:Oper} {t:Tm} {nt:Nat} {ops:O_} {C:Et}
theorem jZ {α:Type} {p:Nat->α->Bool}:∀ (l:List α) (k:Nat),(∀ i x,l[i]?=some x->p (k+i) x=true)->allI p l k=true
|[],k,h=>rfl
|y::l,k,h=>by
  rw [PW,b_t];refine ⟨h 0 y rfl,jZ l _ fun i x hx=>?_⟩;have:=h (i+1) x (by simpa using hx);rw [show k+1+i=k+(i+1) by omega];exact this
theorem Za {l:N_} (h:n ∈ l):PE l n=true:=by
 induction l with
|nil=>cases h
|cons m l ih =>
  show cond (Nat.beq m n) true (PE l n)=true;rcases List.mem_cons.1 h with rfl|h
  ·rw [Nat.beq_refl];rfl
  ·rw [ih h];cases Nat.beq m n<;>rfl
theorem QO {a b:Option Addr} (h:lU a b=true):a=b:=by
 unfold lU at h;split at h
 ·rfl
 ·rw [b_t] at h;rw [n_q h.1,n_q h.2]
 ·cases h
theorem gY {a:Value} (h:zf a b=true):a=b:=by
 unfold zf at h;split at h
 ·rw [b_t] at h;rw [Io h.1,of_decide_eq_true h.2]
 ·rw [eq_of_beq h]
 ·rw [QO h]
 ·simp only [b_t] at h;rw [QO h.1.1,n_q h.1.2,n_q h.2]
 ·rfl
 ·rw [b_t] at h;rw [n_q h.1,QO h.2]
 ·rw [n_q h]
 ·rfl
 ·rename_i f x y g c d;rw [b_t] at h;have h1:=n_q h.1;subst h1;have h2:=h.2;split at h2
  ·rename_i e1 e2 e3 e4;exact xeo
  ·rename_i u v e1 e2 e3 e4;have h3:=QO h2;subst h3;exact xeo
  ·cases h2
 ·cases h
theorem Gw:∀ {a b:L_},Ky a b=true->a=b
|[],[],_=>rfl
|a::l,b::m,h=>by
  unfold Ky at h;rw [b_t] at h;rw [gY h.1,Gw h.2]
|[],_::_,h=>by cases h
|_::_,[],h=>by cases h
theorem qF {a:Value} (h:veq a b=true):a=b:=by
 unfold veq at h;split at h
 ·have:=Gw h
  congr 1
  exact Array.ext' this
 ·exact gY h
theorem VK {ns:N_} {op:Op} {r:CZ} {poss:Nat->Bool}:∀ (hs:List AH) (k:Nat),ZA P ns op r poss hs k=true->∀ p hp,hs[p]?=some hp->poss (k+p)=true->aop P (IC ns r.t) op hp=some (.val r.v)
|[],k,h,p,hp,hg,_=>by simp at hg
|g::hs,k,h,p,hp,hg,hpo=>by
  unfold ZA at h;rw [b_t] at h;cases p with
 |zero =>
   simp only [List.getElem?_cons_zero,Option.some.injEq] at hg;subst hg;have h1:=h.1;rw [show poss k=true from hpo] at h1;simp only [cond_true] at h1;split at h1
   ·rename_i v hv;rw [hv,qF h1]
   ·cases h1
 |succ p =>
   refine VK hs _ h.2 p hp (by simpa using hg) ?_;rw [show Nat.add k 1+p=k+(p+1) by show k+1+p=_;omega];exact hpo
theorem Zz {l:Q_} {M:N_} {hs:List AH}:∀ (m:Q_) (rs:List CZ) (k:Nat),wS P ops l M hs m rs k=true->∀ i o r,m[i]?=some o->rs[i]?=some r->Pz o.op=true->r.want=true->ZA P (Dh ops o) o.op r (sO l M (k+i)) hs 0=true
|[],rs,k,h,i,o,r,ho,_,_,_=>by simp at ho
|_::_,[],k,h,_,_,_,_,hr,_,_=>by simp at hr
|o'::m,r'::rs,k,h,i,o,r,ho,hr,h1,h2=>by
  unfold wS at h;rw [b_t] at h;cases i with
 |zero =>
   simp only [List.getElem?_cons_zero,Option.some.injEq] at ho hr;subst ho hr;have h3:=h.1;rw [h1,h2] at h3;exact h3
 |succ i =>
   have:=Zz m rs _ h.2 i o r (by simpa using ho) (by simpa using hr) h1 h2;rw [show Nat.add k 1+i=k+(i+1) by show k+1+i=_;omega] at this;exact this
theorem W9 {ev:Ev} (h1:Bc op=false) (h2:Pz op=false) (h h':AH):aop P ev op h=aop P ev op h':=by
 cases op
 case call c =>
  show O4 P ev c h=O4 P ev c h';unfold O4;split
  ·unfold Bc at h1;simp only at h1;split at h1
   ·rename_i hc;exfalso;unfold Pz at h2;simp only [hc] at h2;cases h2
   ·rename_i hc;rw [hc];rfl
   ·rename_i hc;rw [hc];rfl
   ·cases h1
  ·rfl
 case convert s d x =>
  have h1':Nat.beq s d=false:=h1;have h2':(not (Nat.beq s d))=false:=h2;rw [h1'] at h2';cases h2'
 case makeMap t r=>cases h1
 all_goals first|rfl|(cases h2;done)|(cases h1;done)
theorem HX.drawn {n:Nat} (hr:HX e h w0 w):HX e h w0 { w with drawn:=n } :=
 ⟨⟨hr.below.os,hr.below.tape,hr.below.output,hr.below.size,hr.below.block⟩,hr.small,hr.dom,fun k o hk ho=>by
  obtain ⟨g,c,h1,h2,h3⟩:=hr.live k o hk ho
  exact ⟨g,c,h1,h2,h3.block rfl⟩,hr.inj⟩
theorem Uf {ns:N_} (ht:∀ s,s < SB->PE ns s=true->VR e (Cc t s) (a.tmps.getD s undef)):EvR e (IC ns t) a:=by
 intro x v hx;cases x with
|tmp i =>
  have hx':cond (PE ns i) (aev t (.tmp i)) none=some v:=hx;cases hb:PE ns i with
 |false=>rw [hb] at hx';cases hx'
 |true =>
   rw [hb] at hx';cases hc:Nat.ble i 1000000 with
  |false =>
    have:aev t (.tmp i)=none:=by simp [aev,cv,hc]
    simp only [cond_true,this] at hx';cases hx'
  |true =>
    have:aev t (.tmp i)=some (Cc t i):=by simp [aev,cv,hc,Cc,Tr.get]
    simp only [cond_true,this] at hx';cases hx';exact ht i (YW hc) hb
|const v' =>
  cases hb:BM v' with
 |false =>
   have:IC ns t (.const v')=none:=by simp [IC,aev,cv,hb]
   rw [this] at hx;cases hx
 |true =>
   have:IC ns t (.const v')=some v':=by simp [IC,aev,cv,hb]
   rw [this] at hx;cases hx;exact GN hb
|global g=>cases hx
|func f=>cases hx;exact .func (.func f) (a:=[]) (b:=[]) .nil .nil
theorem Ze {j:Nat} (hi:i < L.size):(L.setIfInBounds i true).getD j false=if j=i then true else L.getD j false:=by
 by_cases h:j=i
 ·subst h;rw [if_pos rfl];exact ED hi
 ·rw [if_neg h];simp [Array.getElem?_setIfInBounds_ne (fun e=>h e.symm)]
theorem NY {d:Option Tmp} (hd:∀ x,d=some x->x < a.tmps.size):(a.put d u).tmps.getD s undef=if d=some s then u else a.tmps.getD s undef:=by
 cases d with
|none=>rfl
|some x =>
  have hx:=hd x rfl;simp only [Act.put];by_cases h:x=s
  ·subst h;rw [if_pos rfl];simp [hx]
  ·rw [if_neg (by simpa using h)];simp [Array.getElem?_setIfInBounds_ne h]
theorem NW {d:Option Tmp}:(a.put d u).tmps.size=a.tmps.size:=by
 cases d<;>simp [Act.put]
theorem put_defers {d:Option Tmp}:(a.put d u).defers=a.defers:=by
 cases d<;>rfl
theorem HX.more (hr:HX e h w0 w) (hg:w.grownBy w' none):HX e h w0 w' :=
 hr.next (En.le.refl e) hg (fun g e=>by cases e) hr.small hr.dom (fun k o hk ho=>.inl ⟨ho,fun _ _ _ h=>by cases h⟩)
theorem eP (hm:P.follows .mixedOrders=true) (hC:∀ w0,F8 P C w0) (ht:TR e t a nt) (hr:HX e h w0 w) {t':Tm} (hx:Wn P C ops nt t h=some (t',h'))
  (hQ:∀ e' a' w',e.le e'->TR e' t' a' nt->HX e' h' w0 w'->Q .normal a' w'):(Code.region id ops true).wp P Q a w:=by
 unfold Wn at hx;cases hst:PL ops with
|false=>rw [hst] at hx;cases hx
|true =>
 rw [hst] at hx;simp only [cond_true,QT,Zu] at hx;split at hx
 case h_2=>cases hx
 rename_i rs hs tf hrun;cases hck:wS P ops ops.toList (mks ops.toList []) (h::hs) ops.toList rs 0 with
|false=>rw [hck] at hx;cases hx
|true =>
 rw [hck] at hx;cases hx;obtain ⟨a1,a2,a3,a4,a5⟩:=TK ht.big _ _ _ _ _ _ hrun;have hD0:∃ D0,a.defers=D0:=⟨_,rfl⟩;obtain ⟨D0,hD0⟩:=hD0;have hdr:=ht.defers;rw [hD0] at hdr
 have hmk:Cc t' SB=Cc t SB:=by
  rcases a5 SB (by decide) with ⟨j,o',r',c2,c3,c4,c5⟩|⟨_,c2⟩
  ·obtain ⟨_,_,_,_,_,_,_,q1⟩:=a3 j o' c2;exact absurd (Nat.lt_of_lt_of_le (q1 SB c4) ht.small) (by decide)
  ·exact c2
 have hS:∀ i o,ops.toList[i]?=some o->P6 o i=true/\∀ j p,ops.toList[j]?=some p->(i=j\/∀ d,o.dst=some d->p.dst ≠ some d)/\(∀ d,p.dst=some d->PE (Dh ops o) d=true->j=i\/(j < i/\Fp (mks ops.toList []) i j=true)\/(i < j/\Fp (mks ops.toList []) j i=true))/\(Bc o.op=true->Bc p.op=true->j < i->Fp (mks ops.toList []) i j=true):=by
  intro i o ho;unfold PL at hst;simp only [QT] at hst;have h1:=Jt _ _ hst i o ho;rw [Nat.zero_add,b_t] at h1;refine ⟨h1.1,fun j p hp=>?_⟩;have h2:=Jt _ _ h1.2 j p hp;simp only [Nat.zero_add,b_t] at h2;obtain ⟨⟨b1,b2⟩,b3⟩:=h2;refine ⟨?_,fun d hd hn=>?_,fun e1 e2 hlt=>?_⟩
  ·rw [Bool.or_eq_true] at b1;rcases b1 with b1|b1
   ·exact .inl (n_q b1)
   ·refine .inr fun d hd hp2=>?_;rw [hd,hp2] at b1;simp only [Nat.beq_refl] at b1;cases b1
  ·rw [hd] at b2;simp only [hn,Bool.not_true,Bool.false_or,Bool.or_eq_true] at b2;rcases b2 with b2|b2
   ·exact .inl (n_q b2)
   ·cases hb:Nat.blt j i with
   |true=>rw [hb] at b2;exact .inr (.inl ⟨n_l hb,b2⟩)
   |false =>
     rw [hb] at b2
     have:¬ j < i:=fun hh=>by
      have:Nat.blt j i=true:=Nat.ble_eq_true_of_le hh;rw [this] at hb;cases hb
     by_cases hji:j=i
     ·exact .inl hji
     ·exact .inr (.inr ⟨by omega,b2⟩)
  ·have:Nat.blt j i=true:=Nat.ble_eq_true_of_le hlt;rw [e1,e2,this] at b3;simpa using b3
 have hops:∀ i o,ops.toList[i]?=some o->ops[i]?=some o:=fun i o ho=>by rw [<- a_g];exact ho
 have hwb:Gh ops=true:=by
  unfold Gh;rw [l_t];intro i hi;have hi':=List.mem_range.1 hi;have hg:ops.toList[i]?=some ops[i]:=by rw [a_g];exact Array.getElem?_eq_getElem hi'
  rw [Array.getElem?_eq_getElem hi'];simp only [Option.map_some,Option.getD_some];have:=(hS i _ hg).1;unfold P6 at this;rw [l_t] at this;rw [<- Array.all_toList,l_t];intro ed hed;have h2:=this ed hed;rw [Bool.or_eq_true] at h2 ⊢;exact h2.imp (fun q=>q) fun h3=>decide_eq_true (n_l h3)
 let l:=ops.toList
 refine I9 hm hwb (fun L a w=>Down ops L/\∃ (e1:En) (p:Nat) (hp:AH),e.le e1/\p<=hs.length/\(h::hs)[p]?=some hp/\HX e1 hp w0 w/\(∀ (i:Nat) (o:Oper),ops.toList[i]?=some o->Bc o.op=true->(L.getD i false=true ↔ Bf ops.toList i < p)) /\
  (∀ s,s < SB->(∃ (j:Nat) (o:Oper) (r:CZ),ops.toList[j]?=some o/\rs[j]?=some r/\o.dst=some s/\L.getD j false=true/\VR e1 r.v (a.tmps.getD s undef))\/((∀ (j:Nat) (o:Oper),ops.toList[j]?=some o->o.dst=some s->L.getD j false=false)/\VR e1 (Cc t s) (a.tmps.getD s undef)))/\a.tmps.size=nt/\a.defers=D0) ?_ ?_ ?_
 ·
  intro L i a w hLs hready ⟨hdown,e1,p,hp,he1,hple,hhp,hHR,heff,hslots,hsz,hdf⟩
  have hi:i < ops.size:=by
   unfold Region.ready at hready;rw [List.mem_filter] at hready;exact List.mem_range.1 hready.1
  have hg:ops.toList[i]?=some ops[i]:=by rw [a_g];exact Array.getElem?_eq_getElem hi
  generalize ops[i]=o at hg;obtain ⟨hLi,hdeps⟩:=Ap hLs hready (hops i o hg);have hbit:∀ j,Fp (mks ops.toList []) i j=true->L.getD j false=true:=fun j hb=>Gx hLs hdown i hg (fun ed h1 h2=>hdeps ed h1 h2) hb
  have hbit2:∀ j p',ops.toList[j]?=some p'->L.getD j false=true->Fp (mks ops.toList []) j i=true->False:=fun j p' hj hl hb=>by
   have:=Gx hLs hdown j hj (fun ed h1 h2=>hdown j p' hj hl ed h1 h2) hb;rw [this] at hLi;cases hLi
  obtain ⟨r,hi0,hi1,b1,b2,b3,b4,b5⟩:=a3 i o hg
  have hnames:∀ s,s < SB->PE (Dh ops o) s=true->VR e1 (Cc r.t s) (a.tmps.getD s undef):=by
   intro s hsB hn;rcases a4 i r b1 s (JC hsB) with ⟨j,o',r',c1,c2,c3,c4,c5⟩|⟨c1,c2⟩
   ·rcases hslots s hsB with ⟨j2,o2,r2,d1,d2,d3,d4,d5⟩|⟨d1,d2⟩
    ·exact xg3
    ·exfalso;have h1:=d1 j o' c2 c4;rcases ((hS i o hg).2 j o' c2).2.1 s c4 hn with h2|⟨_,h2⟩|⟨h2,_⟩
     ·omega
     ·rw [hbit j h2] at h1;cases h1
     ·omega
   ·rcases hslots s hsB with ⟨j2,o2,r2,d1,d2,d3,d4,d5⟩|⟨d1,d2⟩
    ·exfalso;rcases ((hS i o hg).2 j2 o2 d1).2.1 s d3 hn with h2|⟨h2,_⟩|⟨_,h2⟩
     ·subst h2;rw [d4] at hLi;cases hLi
     ·exact c1 j2 o2 h2 d1 d3
     ·exact hbit2 j2 o2 d1 d4 h2
    ·rw [c2];exact d2
  have hev:EvR e1 (IC (Dh ops o) r.t) a:=Uf hnames;have hguard:∀ d,d ∈ Tt ops o.guard->d < SB->VR e1 (Cc r.t d) (a.tmps.getD d undef):=fun d hd hB=>hnames d hB (Za (List.mem_append.2 (.inl hd)))
  have hturn:Bc o.op=true->Bf ops.toList i=p:=by
   intro he;have h1:¬ Bf ops.toList i < p:=fun h=>by rw [(heff i o hg he).2 h] at hLi;cases hLi
   rcases Nat.lt_or_ge p (Bf ops.toList i) with h2|h2
   ·exfalso;obtain ⟨j,o',c1,c2,c3,c4⟩:=GV ops.toList i (by rw [Array.length_toList];omega) h2;have h3:=((hS i o hg).2 j o' c2).2.2 he c3 c1;have:=(heff j o' c2 c3).1 (hbit j h3);omega
   ·omega
  have fin:∀ {e2:En} {hn:AH} {w2:World} {u:Value},e1.le e2->VR e2 r.v u->HX e2 hn w0 w2->(Bc o.op=true->hn=hi1)->(Bc o.op=false->hn=hp) ->
    (Down ops (L.setIfInBounds i true)/\∃ (e1:En) (p:Nat) (hp:AH),e.le e1/\p<=hs.length/\(h::hs)[p]?=some hp/\HX e1 hp w0 w2/\(∀ (j:Nat) (o:Oper),ops.toList[j]?=some o->Bc o.op=true->((L.setIfInBounds i true).getD j false=true ↔ Bf ops.toList j < p)) /\
    (∀ s,s < SB->(∃ (j:Nat) (o':Oper) (r:CZ),ops.toList[j]?=some o'/\rs[j]?=some r/\o'.dst=some s/\(L.setIfInBounds i true).getD j false=true/\VR e1 r.v ((a.put o.dst u).tmps.getD s undef))\/((∀ (j:Nat) (o':Oper),ops.toList[j]?=some o'->o'.dst=some s->(L.setIfInBounds i true).getD j false=false)/\VR e1 (Cc t s) ((a.put o.dst u).tmps.getD s undef)))/\(a.put o.dst u).tmps.size=nt/\(a.put o.dst u).defers=D0):=by
   intro e2 hn w2 u he2 hvu hHR2 hne hnn;have hLi':i < L.size:=by rw [hLs];exact hi
   have hgs:∀ j,(L.setIfInBounds i true).getD j false=if j=i then true else L.getD j false:=fun j=>Ze hLi'
   refine ⟨?_,?_⟩
   ·intro j o' hj hl ed hed hb;rw [hgs];split
    ·rfl
    ·rw [hgs] at hl;split at hl
     ·rename_i hji;subst hji;rw [hg] at hj;cases hj;exact hdeps ed hed hb
     ·exact hdown j o' hj hl ed hed hb
   ·have hslot2:∀ s,s < SB->(∃ (j:Nat) (o':Oper) (r:CZ),ops.toList[j]?=some o'/\rs[j]?=some r/\o'.dst=some s/\(L.setIfInBounds i true).getD j false=true/\VR e2 r.v ((a.put o.dst u).tmps.getD s undef))\/((∀ (j:Nat) (o':Oper),ops.toList[j]?=some o'->o'.dst=some s->(L.setIfInBounds i true).getD j false=false)/\VR e2 (Cc t s) ((a.put o.dst u).tmps.getD s undef)):=by
     intro s hsB;have hpg:=NY (a:=a) (d:=o.dst) (u:=u) (s:=s) (fun x hx=>Nat.lt_of_lt_of_eq (b5 x hx) hsz.symm);by_cases hds:o.dst=some s
     ·rw [if_pos hds] at hpg;refine .inl ⟨i,o,r,hg,b1,hds,by rw [hgs,if_pos rfl],?_⟩;rw [hpg];exact hvu
     ·rw [if_neg hds] at hpg;rcases hslots s hsB with ⟨j2,o2,r2,d1,d2,d3,d4,d5⟩|⟨d1,d2⟩
      ·refine .inl ⟨j2,o2,r2,d1,d2,d3,by rw [hgs,d4];simp,?_⟩;have hne2:j2 ≠ i:=fun h=>by subst h;rw [hg] at d1;cases d1;exact hds d3
       have hd:o2.dst ≠ o.dst:=fun h=>hds (h ▸ d3);have hpg2:=NY (a:=a) (d:=o.dst) (u:=u) (s:=s) (fun x hx=>Nat.lt_of_lt_of_eq (b5 x hx) hsz.symm);rw [if_neg hds] at hpg2;rw [hpg2];exact d5.mono he2
      ·refine .inr ⟨fun j o' hj hd=>?_,by rw [hpg];exact d2.mono he2⟩;rw [hgs];have hne2:j ≠ i:=fun h=>by subst h;rw [hg] at hj;cases hj;exact hds hd
       rw [if_neg hne2];exact d1 j o' hj hd
    cases he:Bc o.op with
   |true =>
     have hc:=hturn he;have hh:=b4 he;rw [hc,<- hne he] at hh
     have hp1:p+1<=hs.length:=by
      have:=(List.getElem?_eq_some_iff.1 hh).1;simp at this;omega
     refine ⟨e2,p+1,hn,he1.trans he2,hp1,hh,hHR2,fun j o' hj hej=>?_,hslot2,by rw [NW];exact hsz,by rw [put_defers];exact hdf⟩;rw [hgs];by_cases hji:j=i
     ·subst hji;rw [if_pos rfl];exact ⟨fun _=>by omega,fun _=>rfl⟩
     ·rw [if_neg hji,heff j o' hj hej];have hjl:=(List.getElem?_eq_some_iff.1 hj).1;have hil:=(List.getElem?_eq_some_iff.1 hg).1
      have hcne:Bf ops.toList j ≠ Bf ops.toList i:=by
       rcases Nat.lt_or_gt_of_ne hji with h1|h1
       ·have:=VL ops.toList hj hej h1 (by omega);omega
       ·have:=VL ops.toList hg he h1 (by omega);omega
      omega
   |false =>
     have:=hnn he;subst this;refine ⟨e2,p,hn,he1.trans he2,hple,hhp,hHR2,fun j o' hj hej=>?_,hslot2,by rw [NW];exact hsz,by rw [put_defers];exact hdf⟩;rw [hgs];have hji:j ≠ i:=fun h=>by subst h;rw [hg] at hj;cases hj;rw [he] at hej;cases hej
     rw [if_neg hji];exact heff j o' hj hej
  unfold GZ at b3;split at b3
  ·
   rename_i hw;injection b3 with b3;simp only [Prod.mk.injEq] at b3;obtain ⟨w1,w2,w3⟩:=b3;refine Ld hg (DV hguard hw) ?_;refine fin (hn:=hp) (En.le.refl e1) (by rw [<- w2];exact .undef) hHR (fun he=>?_) (fun _=>rfl);have hc:=hturn he;rw [hc,hhp] at b2;cases b2;exact w3
  ·rename_i hw;split at b3
   ·rename_i v hx hde;injection b3 with b3;simp only [Prod.mk.injEq] at b3;obtain ⟨w1,rfl,rfl⟩:=b3;have hwant:=DV hguard hw;refine Dx hg hwant fun K hK=>?_;unfold jH at hde;cases he:Bc o.op with
   |true =>
     have hc:=hturn he;rw [hc,hhp] at b2;cases b2;rw [he] at hde;split at hde
     ·rename_i v2 hv;cases hde;obtain ⟨u,q1,q2⟩:=EP (hC w0).keyed hev hHR hv;exact JA (.inl q1) (hK _ _ (fin (hn:=hp) (En.le.refl e1) q2 hHR (fun _=>rfl) (fun _=>rfl)))
     ·rename_i v2 h2 hv;cases hde;obtain ⟨u,w',e',q1,q2,q3,q4⟩:=EP (hC w0).keyed hev hHR hv;exact JA q2 (hK _ _ (fin q1 q3 q4 (fun _=>rfl) (fun h=>by rw [he] at h;cases h)))
     ·rename_i f args hv;obtain ⟨args',q1,q2⟩:=EP (hC w0).keyed hev hHR hv;have hde':C f args hp=some (r.v,hx):=hde;unfold Oper.wp;rw [q1];show Calls P f args'.toArray w _;refine ((hC w0).ok f args hp r.v hx hde' e1 w args' q2 hHR).mono ?_;rintro y w' ⟨u,e',rfl,z1,z2,z3⟩;exact hK _ _ (fin z1 z2 z3 (fun _=>rfl) (fun h=>by rw [he] at h;cases h))
     ·cases hde
   |false =>
     rw [he] at hde;split at hde
     ·rename_i v2 hv;cases hde
      have hnow:aop P (IC (Dh ops o) r.t) o.op hp=some (.val r.v):=by
       cases hmem:Pz o.op with
      |false=>rw [W9 he hmem hp hi0];exact hv
      |true =>
        have h1:=Zz _ _ _ hck i o r hg b1 hmem w1.symm;rw [Nat.zero_add] at h1;refine VK _ _ h1 p hp hhp ?_;rw [Nat.zero_add];refine jZ _ _ fun j o' hj=>?_;rw [Nat.zero_add];cases hej:Bc o'.op with
       |false=>rfl
       |true =>
         have hiff:=heff j o' hj hej;cases hb:Nat.blt (Bf ops.toList j) p with
        |true =>
          have hlt:Bf ops.toList j < p:=n_l hb;have hl:=hiff.2 hlt;cases hbb:Fp (mks ops.toList []) j i with
         |false=>rfl
         |true=>exact (hbit2 j o' hj hl hbb).elim
        |false =>
          have hnl:¬ Bf ops.toList j < p:=fun hh=>by
           have:Nat.blt (Bf ops.toList j) p=true:=Nat.ble_eq_true_of_le hh;rw [this] at hb;cases hb
          cases hbb:Fp (mks ops.toList []) i j with
         |false=>rfl
         |true=>exact absurd (hiff.1 (hbit j hbb)) hnl
      obtain ⟨u,q1,q2⟩:=EP (hC w0).keyed hev hHR hnow;exact JA (.inl q1) (hK _ _ (fin (hn:=hp) (En.le.refl e1) q2 hHR (fun h=>by rw [he] at h;cases h) (fun _=>rfl)))
     ·cases hde
     ·cases hde
     ·cases hde
   ·cases b3
  ·cases b3
 ·
  intro L a w hall ⟨hdown,e1,p,hp,he1,hple,hhp,hHR,heff,hslots,hsz,hdf⟩
  have hp2:p=hs.length:=by
   rcases Nat.lt_or_ge p hs.length with h1|h1
   ·exfalso;rw [a2] at h1;obtain ⟨j,o',c1,c2,c3,c4⟩:=GV ops.toList _ (Nat.le_refl _) h1;have:=(heff j o' c2 c3).1 (hall j (by rw [Array.length_toList] at c1;exact c1));omega
   ·omega
  subst hp2;rw [Vw] at hhp;cases hhp;refine hQ e1 a w he1 ⟨fun s hsB=>?_,hsz,ht.small,by rw [hdf,hmk];exact hdr.mono he1⟩ hHR;have hjs:∀ {j:Nat} {o':Oper},ops.toList[j]?=some o'->L.getD j false=true:=fun hj=>hall _ (by have:=(List.getElem?_eq_some_iff.1 hj).1;rw [Array.length_toList] at this;exact this);rcases a5 s (JC hsB) with ⟨j,o',r',c2,c3,c4,c5⟩|⟨c1,c2⟩
  ·rcases hslots s hsB with ⟨j2,o2,r2,d1,d2,d3,d4,d5⟩|⟨d1,d2⟩
   ·exact xg3
   ·have:=d1 j o' c2 c4;rw [hjs c2] at this;cases this
  ·rcases hslots s hsB with ⟨j2,o2,r2,d1,d2,d3,d4,d5⟩|⟨d1,d2⟩
   ·exact absurd d3 (c1 j2 o2 d1)
   ·rw [c2];exact d2
 ·
  have h0:∀ j,(Array.replicate ops.size false).getD j false=false:=fun j=>by
   by_cases hj:j < ops.size<;>simp [hj]
  refine ⟨fun j o' _ hl=>(by rw [h0] at hl;cases hl),e,0,h,En.le.refl e,Nat.zero_le _,rfl,hr.drawn,fun j o' _ _=>?_,fun s hsB=>.inr ⟨fun j o' _ _=>h0 j,ht.slots s hsB⟩,ht.size,hD0⟩;rw [h0];exact ⟨fun h=>(by cases h),fun h=>by omega⟩
end
end Go.Proofs.YtkpbhdhkdonghaaGreat
