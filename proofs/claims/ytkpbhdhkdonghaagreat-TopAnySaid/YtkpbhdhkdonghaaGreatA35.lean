/-
  Part 35 of the proof.
-/
import Derived.RangeFuncCalls
import Derived.RangeFuncBox
import Derived.Test.YtkpbhdhkdonghaaGreatA34
set_option linter.all false
namespace Go.Proofs.YtkpbhdhkdonghaaGreat
open Go Go.RowKit
variable {h':AH} {Q:Exit->P_} {g l l0 n p:Nat} {f:Operand} {u x:Value} {w':World}
section
variable {P:Program} {e:En} {h:AH} {w0:Base} {w:World} {a:Act} {o:Oper} {t:Tm} {nt:Nat} {ops:O_} {C:Et}
theorem wp_in {K:P_} (hd:∀ c,o.op ≠ .defer c) (h:o.wp P a w K Q):o.wpIn (Fence.wide.inRound l) n P a w K Q:=by
 refine ⟨fun _ _=>trivial,?_⟩;rw [show (Fence.wide.inRound l).round=some l from rfl,Oper.semAt_some l a.eval o hd];unfold Oper.wp at h;cases hr:(execOp a.eval o).run P w with
|ok nx w' =>
  rw [hr] at h;cases nx with
 |value v=>exact h
 |skip=>exact h
 |enter f args=>exact ⟨fun hh=>(by cases hh),CallsIn.inRound l (callsIn_wide.2 h)⟩
 |row row args =>
   refine ⟨fun hh=>(by cases hh),fun c cs _=>?_⟩;obtain ⟨v,w2,h1,h2⟩:=h c cs;exact ⟨v,w2,h1,stepsIn_wide.2 h2⟩
 |round l2 f tmps as b=>exact h.elim
 |_=>first|exact h|exact h.elim
|halt x w' =>
  rw [hr] at h;cases x<;>first|exact h|exact h.elim
theorem jV {l0 n:Nat} {Q:Exit->P_} (hC:F8 P C w0):∀ (l:Q_) (t:Tm) (h:AH) (t':Tm) (h':AH),fU P C ops nt l t h=some (t',h')->(∀ o ∈ l,∀ c,o.op ≠ .defer c)->∀ e a w,TR e t a nt->HX e h w0 w ->
  (∀ e' a' w',e.le e'->TR e' t' a' nt->HX e' h' w0 w'->Q .normal a' w')->wpListIn (Fence.wide.inRound l0) n P ops Q l a w
|[],t,h,t',h',hx,_,e,a,w,ht,hr,hQ=>by
  cases hx;exact wpListIn_nil (hQ e a w (En.le.refl e) ht hr)
|o::l,t,h,t',h',hx,hd,e,a,w,ht,hr,hQ=>by
  have hx':Option.rec (motive:=fun _=>Option (Tm × AH)) none (fun p=>Prod.rec (motive:=fun _=>Option (Tm × AH)) (fun t2 h2=>fU P C ops nt l t2 h2) p) (U7 P C ops nt o t h)=some (t',h'):=hx;cases hs:U7 P C ops nt o t h with
 |none=>rw [hs] at hx';cases hx'
 |some p =>
   obtain ⟨t2,h2⟩:=p;rw [hs] at hx'
   have hst:=Qu (Q:=Q) (K:=wpListIn (Fence.wide.inRound l0) n P ops Q l) hC ht hr hs (fun e' a' w' h1 h3 h4 =>
    jV hC l t2 h2 t' h' hx' (fun o' ho=>hd o' (List.mem_cons_of_mem _ ho)) e' a' w' h3 h4 fun e2 a2 w2 q1 q2 q3=>hQ e2 a2 w2 (h1.trans q1) q2 q3)
   unfold wpListIn;cases hw:Region.wanted o (yielded ops a.tmps) with
  |true =>
    rw [hw] at hst;simp only [if_true] at hst ⊢;exact wp_in (hd o (by simp)) hst
  |false =>
    rw [hw] at hst;exact ⟨fun _ _=>trivial,hst⟩
theorem lX (h:iQ ops=true):∀ o ∈ ops.toList,∀ c,o.op ≠ .defer c:=by
 intro o ho c hc;unfold iQ at h;rw [l_t] at h;have:=h o ho;rw [hc] at this;cases this
theorem ZX {c:Code} {t':Tm} (hC:F8 P C w0) (hx:ku P C nt c t h=some (t',h')) (ht:TR e t a nt) (hr:HX e h w0 w)
  (hQ:∀ e' a' w',e.le e'->TR e' t' a' nt->HX e' h' w0 w'->Q .normal a' w'):c.wpIn (Fence.wide.inRound l0) n P Q a w:=by
 unfold ku at hx;split at hx
 ·rename_i id ops;cases hd:iQ ops with
 |false=>rw [hd] at hx;cases hx
 |true =>
   rw [hd] at hx;exact wpIn_region_list (jV hC _ _ _ _ _ hx (lX hd) e a w ht hr hQ)
 ·cases hx
theorem oJ {c:Code} (hC:F8 P C w0) (hx:gJ P C nt c t h=some h') (ht:TR e t a nt) (hr:HX e h w0 w)
  (hQ:∀ e' a' w',e.le e'->HX e' h' w0 w'->Q .normal a' w'):c.wpIn (Fence.wide.inRound l0) n P Q a w:=by
 unfold gJ at hx;split at hx
 ·rename_i i b;split at hx
  ·rename_i t' h2 hb;cases hx;refine wpIn_block ?_;exact ZX hC hb ht hr fun e' a' w' h1 h2 h3=>hQ e' a' w' h1 h3
  ·cases hx
 ·cases hx
theorem Hu:∀ {l:L_} {ms:N_},marksOf l=some ms->l=ms.map fun k=>Value.map (some k)
|[],ms,h=>by cases h;rfl
|.map (some k)::l,ms,h=>by
  unfold marksOf at h;split at h
  ·rename_i m hm;cases h;rw [Hu hm];rfl
  ·cases h
|.map none::_,_,h|.bool _::_,_,h|.int _ _::_,_,h|.string _::_,_,h|.pointer _::_,_,h|.slice _ _ _::_,_,h|.func _ _ _::_,_,h|.nilFunc::_,_,h|.iface _ _::_,_,h|.nilIface::_,_,h|.agg _::_,_,h|.tuple _::_,_,h=>by cases h
def Yields (P:Program) (g:FuncId) (cs xs:L_):Prop :=
 ∀ (l n:Nat) (J:L_->World->Prop) (W:World) (bs:List (Nat × Nat)),bs.length=cs.length->(bs.map (·.1)).Nodup ->
  (∀ (i:Nat) (b:Nat × Nat) (c:Value),bs[i]?=some b->cs[i]?=some c->W.cell? ⟨b.1,b.2,none⟩=some c/\W.frozen? ⟨b.1,b.2,none⟩=false) ->
  (∀ pre A b v,b ∈ bs->J pre A->J pre (A.setCell ⟨b.1,b.2,none⟩ v)) ->
  (∀ pre x suf W1,xs=pre++x::suf->J pre W1->YieldAt Fence.wide n P l #[x] W1 fun ed W'=>ed=.returned (.bool true)/\J (pre++[x]) W'/\∀ b ∈ bs,W'.heap[b.1]?=W1.heap[b.1]?)->J [] W ->
  CallsIn Fence.wide (n+1) P g (#[.func (.yield l) #[] #[]]++(bs.map fun b=>Value.pointer (some ⟨b.1,b.2,none⟩)).toArray) W fun ed W'=>(∃ v,ed=.returned v)/\J xs W'
def A0Z (P:Program):Prop:=∀ g cs xs,itT g cs=some xs->Yields P g cs xs
theorem Zi {v:Value} (h:BM v=true) (hv:VR e v u):u=v:=by
 cases hv<;>first|rfl|cases h
theorem HX.moved (hr:HX e h w0 w) (hg:w.grownBy w' (some g)) (hK:¬ w0.K g) (hfree:∀ k o c,k < BIG->h.t.get k=some o->e k ≠ some (g,c)):HX e h w0 w' :=
 hr.next (En.le.refl e) hg (fun g' h=>by cases h;exact hK) hr.small hr.dom (fun k o hk ho=>.inl ⟨ho,fun g' c h1 h2=>by cases h2;exact hfree k o c hk ho h1⟩)
theorem grown_setCell (w:World) (b o:Nat) (v:Value):w.grownBy (w.setCell ⟨b,o,none⟩ v) (some b) :=
 ⟨rfl,rfl,rfl,by simp [World.setCell],fun k _ hk=>by
  simp only [World.setCell]
  rw [Array.getElem?_modify,if_neg (fun e=>hk (by rw [e]))]⟩
theorem Hw (w:World) (g:Nat) (o:Obj):w.grownBy (w.putObj g o) (some g) :=
 ⟨rfl,rfl,rfl,by simp,fun k _ hk=>World.putObj_heap_other (fun e=>hk (by rw [e]))⟩
theorem Qd:∀ (l:L_) (h:AH) (cs:L_) (h1:AH) (us:L_),unbox l h=some (cs,h1)->cs.all BM=true->VRs e l us->HX e h w0 w ->
  ∃ bs:List (Nat × Nat),us=bs.map (fun b=>Value.pointer (some ⟨b.1,b.2,none⟩))/\bs.length=cs.length/\(bs.map (·.1)).Nodup /\
   (∀ (i:Nat) (b:Nat × Nat) (c:Value),bs[i]?=some b->cs[i]?=some c->w.cell? ⟨b.1,b.2,none⟩=some c/\w.frozen? ⟨b.1,b.2,none⟩=false)/\HX e h1 w0 w /\
   (∀ k o,k < BIG->h1.t.get k=some o->h.t.get k=some o) /\
   ∀ b ∈ bs,b.1 < w.heap.size/\¬ w0.K b.1/\(∀ k o c,k < BIG->h1.t.get k=some o->e k ≠ some (b.1,c))/\∃ k o c,k < BIG/\h.t.get k=some o/\e k=some (b.1,c)
|[],h,cs,h1,us,hx,_,hv,hr=>by
  cases hx;cases hv;exact ⟨[],rfl,rfl,List.nodup_nil,fun i b c hb=>by simp at hb,hr,fun k o _ ho=>ho,fun b hb=>by cases hb⟩
|v::l,h,cs,h1,us,hx,hc,hv,hr=>by
  unfold unbox at hx;split at hx
  ·rename_i k;split at hx
   ·rename_i x hg;split at hx
    ·rename_i cs' h2 hu;cases hx;cases hv with
    |cons hv1 hvt =>
     cases hv1 with
    |ptr hk =>
     rename_i us' g c;have hkB:=hr.lt hk;rw [List.all_cons,b_t] at hc;obtain ⟨bs,b1,b2,b3,b4,b5,b6,b7⟩:=Qd l _ cs' h1 us' hu hc.2 hvt (hr.drop hkB);obtain ⟨hK,ds,ty,q1,q2,q3,_⟩:=hr.at hk hg
     have hgne:∀ k2 o,k2 < BIG->(h.t.put k none).get k2=some o->k2 ≠ k/\h.t.get k2=some o:=fun k2 o hk2 ho=>by
      rw [Tr.get_put _ _ hkB hk2] at ho;split at ho
      ·cases ho
      ·rename_i hne;exact ⟨hne,ho⟩
     obtain ⟨u,hu1,hu2⟩:∃ u,ds[c.2]?=some u/\VR e x u:=by
      cases hd:(ds.toList.drop c.2).take [x].length with
     |nil =>
       have:=q3.length;rw [hd] at this;simp at this
     |cons u r =>
       rw [hd] at q3;cases q3 with
      |cons hxu _ =>
        refine ⟨u,?_,hxu⟩;have h0:((ds.toList.drop c.2).take [x].length)[0]?=some u:=by rw [hd];rfl
        rw [List.getElem?_take_of_lt (by simp),List.getElem?_drop] at h0;simpa using h0
     have hux:=Zi hc.1 hu2;subst hux;refine ⟨(g,0+c.2)::bs,by rw [b1];rfl,by simp [b2],?_,?_,b5,fun k2 o hk2 ho=>(hgne k2 o hk2 (b6 k2 o hk2 ho)).2,?_⟩
     ·rw [List.map_cons,List.nodup_cons];refine ⟨fun hmem=>?_,b3⟩;obtain ⟨b,hb,hbe⟩:=List.mem_map.1 hmem;obtain ⟨_,_,_,k2,o2,c2,r1,r2,r3⟩:=b7 b hb;obtain ⟨r4,r5⟩:=hgne k2 o2 r1 r2;rw [hbe] at r3;exact r4 (hr.inj k2 k o2 _ g c2 c r1 hkB r5 hg r3 hk)
     ·intro i b y hb hy;cases i with
     |zero =>
       simp only [List.getElem?_cons_zero,Option.some.injEq] at hb hy;subst hb hy;simp only [Nat.zero_add];refine ⟨by simp [World.cell?,q1,hu1],by simp [World.frozen?,q1]⟩
     |succ i=>exact b4 i b y (by simpa using hb) (by simpa using hy)
     ·intro b hb;rcases List.mem_cons.1 hb with rfl|hb
      ·refine ⟨(hr.at hk hg).2.lt,hK,fun k2 o c2 hk2 ho he=>?_,k,_,c,hkB,hg,hk⟩;obtain ⟨r4,r5⟩:=hgne k2 o hk2 (b6 k2 o hk2 ho);exact r4 (hr.inj k2 k o _ g c2 c hk2 hkB r5 hg he hk)
      ·obtain ⟨r1,r2,r3,k2,o2,c2,r4,r5,r6⟩:=b7 b hb;exact ⟨r1,r2,r3,k2,o2,c2,r4,(hgne k2 o2 r4 r5).2,r6⟩
    ·cases hx
   ·cases hx
  ·cases hx
theorem N7 {p:Nat} {as b:Code}:∀ (l m:L_) (h h':AH),Ep P C nt p as b t (l++m) h=some h'->∃ h2,Ep P C nt p as b t l h=some h2/\Ep P C nt p as b t m h2=some h'
|[],m,h,h',hx=>⟨h,rfl,hx⟩
|x::l,m,h,h',hx=>by
  rw [List.cons_append] at hx;unfold Ep at hx;split at hx
  ·rename_i h3 hr;obtain ⟨h2,q1,q2⟩:=N7 l m h3 h' hx;refine ⟨h2,?_,q2⟩;unfold Ep;rw [hr];exact q1
  ·cases hx
theorem OL {p:Nat} {as b:Code} {x:Value}:∀ (l:L_) (h h2 h3:AH),Ep P C nt p as b t l h=some h2->gy P C nt p as b t x h2=some h3->Ep P C nt p as b t (l++[x]) h=some h3
|[],h,h2,h3,hx,hr=>by
  cases hx;show Ep P C nt p as b t [x] h=_;unfold Ep;rw [hr];rfl
|y::l,h,h2,h3,hx,hr=>by
  rw [List.cons_append];unfold Ep at hx ⊢;split at hx
  ·rename_i h4 hy;exact OL l h4 h2 h3 hx hr
  ·cases hx
theorem TR.round (ht:TR e t a nt) (hp:p < nt) (hx:BM x=true):TR e ((t.put SB (some undef)).put p (some x)) { tmps:=a.tmps.setIfInBounds p x,defers:=[] } nt:=by
 have h1:TR e (t.put SB (some undef)) { tmps:=a.tmps,defers:=[] } nt:=by
  refine ⟨fun i hi=>?_,ht.size,ht.small,?_⟩
  ·rw [FP (by decide) (JC hi),if_neg (by omega)];exact ht.slots i hi
  ·rw [FP (by decide) (by decide),if_pos rfl];exact DR.nil
 exact h1.put (d:=p) hp (GN hx)
theorem XG {ps:Array Tmp} {as b:Code} {t':Tm} (hI:A0Z P) (hC:∀ w0,F8 P C w0) (hx:XH P C f ps as b nt t h=some (t',h')) (ht:TR e t a nt) (hr:HX e h w0 w)
  (hQ:∀ e' a' w',e.le e'->TR e' t' a' nt->HX e' h' w0 w'->Q .normal a' w'):(Code.rangeFunc f ps as b).wp P Q a w:=by
 unfold XH at hx;split at hx
 case h_2=>cases hx
 rename_i g pre post p ms hf hps hms;cases hc1:(pre.toList.isEmpty && (enters P g && Nat.blt p nt)) with
|false=>rw [hc1] at hx;cases hx
|true =>
 rw [hc1] at hx;simp only [cond_true] at hx;rw [b_t,b_t] at hc1;obtain ⟨hpre,hent,hpn⟩:=hc1;have hpn:p < nt:=n_l hpn;split at hx
 case h_2=>cases hx
 rename_i cs h1 hun;split at hx
 case h_2=>cases hx
 rename_i xs hit;cases hfl:(cs.all BM && xs.all BM) with
|false=>rw [hfl] at hx;cases hx
|true =>
 rw [hfl] at hx;simp only [cond_true] at hx;rw [b_t] at hfl;split at hx
 case h_2=>cases hx
 rename_i km h2 hnew;split at hx
 case h_2=>cases hx
 rename_i h3 hro;cases hx;have hpsa:ps=#[p]:=Array.ext' (by rw [hps]);subst hpsa;have hev:=LM ht _ _ hf;generalize hu:a.eval f=u at hev;cases hev with
|func fn ha hb =>
 rename_i pre0 pre1 post0 post1;have hpre0:pre0=[]:=by simpa using hpre
 subst hpre0;cases ha;simp only at hun;obtain ⟨bs,b1,b2,b3,b4,b5,b6,b7⟩:=Qd _ h cs h1 _ hun hfl.1 hb hr;subst b1;obtain ⟨ks,k1,k2,k3⟩:=ht.defers
 have hmsk:(ks.map fun k=>Value.map (some k.1))=ms.map fun k=>Value.map (some k):=by
  rw [k1] at hms;exact Hu hms
 obtain ⟨rfl,hle2,hr2⟩:=b5.add hnew (Jk w (.deferred (some []))) (Nat.le_refl _) (g:=w.heap.size) (c:=(0,0)) (heap_alloc_new w _);generalize he2:e.add h1.n w.heap.size (0,0)=e2 at hle2 hr2;have hkm:e2 h1.n=some (w.heap.size,(0,0)):=by rw [<- he2];exact En.EG
 let W0:World:=w.alloc (.deferred (some []))
 refine wpIn_wide.1 (wpIn_rangeFunc (n:=10) ?_);intro fn0 hfn0
 let L:Nat:=w.heap.size+1
 let rec':LoopState->Loop:=fun st=>{ state:=st,pending:=none,fn:=fn0,tmps:=a.tmps,params:=#[p],assign:=as,body:=b,defers:=w.heap.size }
 let W1:World:=W0.alloc (.loop (rec' .ready))
 have hr1:HX e2 h2 w0 W1:=hr2.more (Jk W0 _)
 have hL1:W1.heap[L]?=some (.loop (rec' .ready)):=by
  have:=World.alloc_heap_new W0 (.loop (rec' .ready));rwa [show W0.heap.size=L from World.size_alloc _ _] at this
 have hs1:W1.heap.size=w.heap.size+2:=by show (W0.heap.push _).size=_;rw [Array.size_push,show W0.heap.size=L from World.size_alloc _ _]
 have hold:∀ k,k < w.heap.size->W1.heap[k]?=w.heap[k]?:=fun k hk=>(Below.heap_alloc _ _ _ (by show k < W0.heap.size;rw [show W0.heap.size=L from World.size_alloc _ _];omega)).trans (Below.heap_alloc _ _ _ hk);refine ⟨L,[{ target:=.collected w.heap.size,args:=#[] }],W1,{ target:=.fn (.func g) (bs.map fun b=>Value.pointer (some ⟨b.1,b.2,none⟩)).toArray,args:=#[.func (.yield L) #[] #[]] },W1,g,#[.func (.yield L) #[] #[]]++(bs.map fun b=>Value.pointer (some ⟨b.1,b.2,none⟩)).toArray,W1,run_enterLoop_outer _ _ _ _ _,?_,fun _ _=>trivial,?_,fun hh=>(by cases hh),?_⟩
 ·simp only [resolve,hu];simp [go_sem]
 ·simp [invoke,go_sem,NH hent]
 let Gd:Nat->Prop:=fun g=>g=L\/∃ b ∈ bs,g=b.1
 have hGK:∀ g,Gd g->¬ w0.K g:=fun g hg=>by
  rcases hg with rfl|⟨b',hb',rfl⟩
  ·exact hr.below.fresh (by show w.heap.size<=w.heap.size+1;omega)
  ·exact (b7 b' hb').2.1
 have hGs:∀ g,Gd g->g < w.heap.size+2:=fun g hg=>by
  rcases hg with rfl|⟨b',hb',rfl⟩
  ·show w.heap.size+1 < _;omega
  ·have:=(b7 b' hb').1;omega
 let J:L_->World->Prop:=fun pr A=>∃ e3 hp,e2.le e3/\HX e3 hp w0 A/\Ep P C nt p as b t pr h2=some hp/\(∀ g,Gd g->∀ k o c,k < BIG->hp.t.get k=some o->e3 k ≠ some (g,c))/\A.heap[L]?=some (.loop (rec' .ready))/\w.heap.size+2<=A.heap.size
 have hLb:∀ b' ∈ bs,b'.1 ≠ L:=fun b' hb' h=>by have h1:=(b7 b' hb').1;rw [h] at h1;exact absurd h1 (by show ¬ w.heap.size+1 < _;omega)
 have hJ0:J [] W1:=by
  refine ⟨e2,h2,En.le.refl e2,hr1,rfl,fun g hg k o c hk ho hke=>?_,hL1,by omega⟩;obtain ⟨_,hh2,hhB⟩:=AH.KH hnew;rcases hg with rfl|⟨b',hb',rfl⟩
  ·have:=(hr2.at hke ho).2.lt;rw [show (w.alloc (.deferred (some []))).heap.size=L from World.size_alloc _ _] at this;omega
  ·rw [hh2] at ho;simp only [Tr.get_put _ _ (Nat.lt_of_succ_lt hhB) hk] at ho;by_cases hkn:k=h1.n
   ·subst hkn;rw [hkm] at hke;injection hke with hke;have h9:=congrArg Prod.fst hke;have:=(b7 b' hb').1;simp only at h9;omega
   ·rw [if_neg hkn] at ho;rw [<- he2] at hke;simp only [En.add,if_neg hkn] at hke;exact (b7 b' hb').2.2.1 k o c hk ho hke
 refine (hI g cs xs hit L 8 J W1 bs b2 b3 (fun i b' c hb' hc'=>?_) ?_ ?_ hJ0).mono ?_
 ·have h9:=(b7 b' (l_m hb')).1;obtain ⟨q1,q2⟩:=b4 i b' c hb' hc';exact ⟨(World.cell?_of_block (a:=⟨b'.1,b'.2,none⟩) (hold _ h9)).trans q1,(World.frozen?_of_block (a:=⟨b'.1,b'.2,none⟩) (hold _ h9)).trans q2⟩
 ·
  rintro pr A b' v hb' ⟨e3,hp,j1,j2,j3,j4,j5,j6⟩;have hg:=grown_setCell A b'.1 b'.2 v;exact ⟨e3,hp,j1,j2.moved hg (b7 b' hb').2.1 (j4 _ (.inr ⟨b',hb',rfl⟩)),j3,j4,(hg.block L (Array.getElem?_eq_some_iff.1 j5).1 (fun h=>hLb b' hb' (by injection h with h;exact h.symm))).trans j5,Nat.le_trans j6 hg.size⟩
 ·
  rintro pr x suf A hxs ⟨e3,hp,j1,j2,j3,j4,j5,j6⟩;rw [hxs] at hro;obtain ⟨hp',r1,r2⟩:=N7 _ _ _ _ hro;rw [j3] at r1;cases r1;unfold Ep at r2;split at r2
  case h_2=>cases r2
  rename_i hq hround;have hround':=hround
  have hxf:BM x=true:=by
   have:=hfl.2;rw [hxs,List.all_append,List.all_cons] at this;simp only [b_t] at this;exact this.2.1
  unfold gy at hround;split at hround
  case h_2=>cases hround
  rename_i t4 h4 has;have hFs:∀ {A':World},w.heap.size+2<=A'.heap.size->∀ g,Gd g->g < A'.heap.size:=fun hA g hg=>Nat.lt_of_lt_of_le (hGs g hg) hA;have hG:=j2.guard (hFs j6) (fun k o g c hk ho hke hg=>j4 g hg k o c hk ho hke)
  have htr:TR e3 ((t.put SB (some undef)).put p (some x)) { tmps:=((#[p]:Array Tmp).zip #[x]).foldl (fun tmps (t,a)=>tmps.setIfInBounds t a) a.tmps,defers:=[] } nt:=by
   have:=(ht.mono (hle2.trans j1)).round hpn hxf;simpa using this
  refine ⟨fn0,_,as,b,run_yield (P:=P) (args:=#[x]) j5 rfl,roundIn_of_wpIn hfn0 (ZX (hC _) has htr hG ?_)⟩;intro e4 a4 w4 l4 tr4 hr4;obtain ⟨u4,v4⟩:=j2.NR hr4
  have free4:∀ g,Gd g->∀ k o c,k < BIG->h4.t.get k=some o->e4 k ≠ some (g,c):=fun g hg k o c hk ho hke=>by
   obtain ⟨g',c',q1,q2,_⟩:=hr4.live k o hk ho;rw [hke] at q1;cases q1;exact q2 (.inr hg)
  have hl4:w4.heap[L]?=some (.loop (rec' .ready)):=(v4 L (.inl rfl)).trans j5;have hs4:w.heap.size+2<=w4.heap.size:=Nat.le_trans j6 hr4.below.size;refine ⟨_,run_beginRound (P:=P) hl4 rfl,?_⟩
  let W5:World:=w4.putObj L (.loop { rec' .ready with state:=.busy })
  have hg5:=Hw w4 L (.loop { rec' .ready with state:=.busy });have hr5:HX e4 h4 w0 W5:=u4.moved hg5 (hGK L (.inl rfl)) (free4 L (.inl rfl));have hl5:W5.heap[L]?=some (.loop { rec' .ready with state:=.busy }):=World.putObj_heap_same (Array.getElem?_eq_some_iff.1 hl4).1;have hs5:w.heap.size+2<=W5.heap.size:=Nat.le_trans hs4 hg5.size;have hG5:=hr5.guard (hFs hs5) (fun k o g c hk ho hke hg=>free4 g hg k o c hk ho hke);refine oJ (hC _) hround tr4 hG5 ?_;intro e6 a6 w6 l6 hr6;obtain ⟨u6,v6⟩:=hr5.NR hr6
  have free6:∀ g,Gd g->∀ k o c,k < BIG->hq.t.get k=some o->e6 k ≠ some (g,c):=fun g hg k o c hk ho hke=>by
   obtain ⟨g',c',q1,q2,_⟩:=hr6.live k o hk ho;rw [hke] at q1;cases q1;exact q2 (.inr hg)
  have hl6:w6.heap[L]?=some (.loop { rec' .ready with state:=.busy }):=(v6 L (.inl rfl)).trans hl5;have hg7:=Hw w6 L (.loop { rec' .ready with state:=.ready,pending:=none });refine ⟨_,_,run_endRound (P:=P) none hl6,rfl,⟨e6,hq,(j1.trans l4).trans l6,u6.moved hg7 (hGK L (.inl rfl)) (free6 L (.inl rfl)),OL _ _ _ _ j3 hround',free6,World.putObj_heap_same (Array.getElem?_eq_some_iff.1 hl6).1,?_⟩,fun b' hb'=>?_⟩
  ·exact Nat.le_trans (Nat.le_trans hs5 hr6.below.size) hg7.size
  ·have hne:=hLb b' hb';exact (World.putObj_heap_other hne).trans ((v6 b'.1 (.inr ⟨b',hb',rfl⟩)).trans ((World.putObj_heap_other hne).trans (v4 b'.1 (.inr ⟨b',hb',rfl⟩))))
 ·
  rintro ed W' ⟨⟨v,rfl⟩,e3,hp,j1,j2,j3,j4,j5,j6⟩;rw [hro] at j3;cases j3;have hg8:=Hw W' L (.loop { rec' .ready with state:=.exhausted });refine ⟨none,_,run_endLoop (P:=P) j5 (by simp [rec']),?_⟩;refine hQ e3 _ _ (hle2.trans j1) ⟨fun i hi=>?_,ht.size,ht.small,?_⟩ (j2.moved hg8 (hGK L (.inl rfl)) (j4 L (.inl rfl)))
  ·rw [FP (by decide) (JC hi),if_neg (by omega)];exact (ht.slots i hi).mono (hle2.trans j1)
  ·rw [FP (by decide) (by decide),if_pos rfl];refine ⟨(h1.n,w.heap.size)::ks,by rw [<- hmsk];rfl,by rw [List.map_cons,<- k2];rfl,fun k hk=>?_⟩;rcases List.mem_cons.1 hk with rfl|hk
   ·exact ⟨_,j1 _ _ hkm⟩
   ·obtain ⟨c,hc⟩:=k3 k hk;exact ⟨c,j1 _ _ (hle2 _ _ hc)⟩
theorem ends {R:Ending->World->Prop} {fn:Func} {tmps:A_}:∀ (ks:List (Nat × Nat)) (h h2:AH) (w:World),LD (ks.map (·.1)) h=some h2->(∀ k ∈ ks,∃ c,e k.1=some (k.2,c))->HX e h w0 w ->
  (∀ w',HX e h2 w0 w'->∃ v,(results fn tmps).run P w'=.ok v w'/\R (.returned v) w')->LeavesInM Fence.wide 9 P fn tmps R (ks.map fun k=>{ target:=.collected k.2,args:=#[] }) .returning w
|[],h,h2,w,hx,_,hr,hR=>by
  cases hx;exact hR w hr
|k::ks,h,h2,w,hx,hk,hr,hR=>by
  rw [List.map_cons] at hx;unfold LD at hx;split at hx
  ·rename_i hm;obtain ⟨c,hc⟩:=hk k (by simp);have hB:=hr.lt hc;obtain ⟨hK,hb⟩:=hr.at hc hm;have hb:w.heap[k.2]?=some (.deferred (some [])):=hb;have hg:=Hw w k.2 (.deferred none)
   have hr2:HX e ⟨h.t.put k.1 none,h.n⟩ w0 (w.putObj k.2 (.deferred none)):=by
    refine (hr.drop hB).moved hg hK fun j o c' hj ho he=>?_;simp only [Tr.get_put _ _ hB hj] at ho;split at ho
    ·cases ho
    ·rename_i hne;exact hne (hr.inj j k.1 o _ k.2 c' c hj hB ho hm he hc)
   refine ⟨by simp,.inl ⟨k.2,_,rfl,run_takeDeferred hb,?_⟩⟩;exact ends ks _ h2 _ hx (fun k' hk'=>hk k' (List.mem_cons_of_mem _ hk')) hr2 hR
  ·cases hx
end
variable {h h':AH} {S:QG} {a:Act} {e e':En} {args args':L_} {n nt:Nat} {w:World}
section
variable {P:Program} {w0:Base}
def AX.toE:AX->Exit
|.normal=>.normal
|.exit id=>.exit id
|.goto l=>.goto l
|.ret=>.ret
def Qz (w0:Base) (e:En) (nt:Nat) (x:AX) (t':Tm) (h':AH):Exit->P_:=fun ex a' w'=>ex=x.toE/\∃ e',e.le e'/\TR e' t' a' nt/\HX e' h' w0 w'
def yT (P:Program) (D:Nb) (w0:Base):Prop:=∀ c nt t h x t' h',D c nt t h=some (x,t',h')->∀ e a w,TR e t a nt->HX e h w0 w->c.wp P (Qz w0 e nt x t' h') a w
def yL (P:Program) (D:Nb) (w0:Base):Prop:=∀ c nt t h x t' h',D c nt t h=some (x,t',h')->∀ e a w,TR e t a nt->HX e h w0 w ->
 ∀ (b:Frame) (k:List Item) (cs:List Frame),∃ ex a' w',Qz w0 e nt x t' h' ex a' w'/\Arrives P (lone (b.at a (.code c::.inLoop c::k)) cs w) b k cs ex a' w'
structure Kt (P:Program) (D:AI) (w0:Base):Prop where
 call:F8 P D.call w0
 code:yT P D.code w0
 loop:yL P D.loop w0
theorem Qz.mono {x:AX} {t':Tm} {ex:Exit} (he:e.le e') (h:Qz w0 e' nt x t' h' ex a w):Qz w0 e nt x t' h' ex a w:=by
 obtain ⟨h1,e2,h2,h3⟩:=h;exact ⟨h1,e2,he.trans h2,h3⟩
theorem Ug {x:Option (AX × Tm × AH)} {k:Tm->AH->Option (AX × Tm × AH)} {y:AX} {t':Tm} (hx:ZW x k=some (y,t',h')):(∃ t h,x=some (.normal,t,h)/\k t h=some (y,t',h'))\/(y ≠ .normal/\x=some (y,t',h')):=by
 unfold ZW at hx;split at hx
 ·exact .inl ⟨_,_,rfl,hx⟩
 ·rename_i z hz;subst hx;exact .inr ⟨fun e=>by subst e;exact hz _ _ rfl,rfl⟩
theorem dM {D:AI} (hD:Kt P D w0):yL P (xZ D) w0:=by
 intro c nt t h x t' h' hx e a w ht hr b k cs;unfold xZ at hx;rcases Ug hx with ⟨t1,h1,hc,hl⟩|⟨hne,hc⟩
 ·obtain ⟨ex,a1,w1,⟨rfl,e1,he,ht1,hr1⟩,harr⟩:=hD.code c nt t h _ _ _ hc e a w ht hr b (.inLoop c::k) cs;obtain ⟨ex2,a2,w2,hp,harr2⟩:=hD.loop c nt t1 h1 _ _ _ hl e1 a1 w1 ht1 hr1 b k cs;exact ⟨ex2,a2,w2,hp.mono he,.of_steps (Steps.trans harr (.one step_inLoop)) harr2⟩
 ·obtain ⟨ex,a1,w1,⟨rfl,e1,he,ht1,hr1⟩,harr⟩:=hD.code c nt t h _ _ _ hc e a w ht hr b (.inLoop c::k) cs;refine ⟨_,a1,w1,⟨rfl,e1,he,ht1,hr1⟩,?_⟩;cases x with
 |normal=>exact absurd rfl hne
 |exit id=>exact .pass (x:=.inLoop c) rfl (fun _ _=>.inl (by simp [AX.toE])) harr
 |goto l=>exact .pass (x:=.inLoop c) rfl (fun _ _=>.inl (by simp [AX.toE])) harr
 |ret=>exact .pass (x:=.inLoop c) rfl (fun _ _=>.inl (by simp [AX.toE])) harr
theorem fB {D:AI} (hI:A0Z P) (hm:P.follows .mixedOrders=true) (hA:∀ w0,Kt P D w0) (w0:Base):yT P (A1w P D) w0:=by
 have hD:=hA w0;intro c nt t h x t' h' hx e a w ht hr;cases c with
|skip=>cases hx;exact wp_skip ⟨rfl,e,En.le.refl e,ht,hr⟩
|label l=>cases hx;exact wp_label ⟨rfl,e,En.le.refl e,ht,hr⟩
|ret=>cases hx;exact wp_ret ⟨rfl,e,En.le.refl e,ht,hr⟩
|exit i=>cases hx;exact wp_exit ⟨rfl,e,En.le.refl e,ht,hr⟩
|goto l=>cases hx;exact wp_goto ⟨rfl,e,En.le.refl e,ht,hr⟩
|seq c1 c2 =>
  have hx':ZW (D.code c1 nt t h) (fun t h=>D.code c2 nt t h)=some (x,t',h'):=hx;refine wp_seq ?_;rcases Ug hx' with ⟨t1,h1,hc,hl⟩|⟨hne,hc⟩
  ·refine wp_mono (hD.code c1 nt t h _ _ _ hc e a w ht hr) ?_;rintro ex a1 w1 ⟨rfl,e1,he,ht1,hr1⟩;exact wp_mono (hD.code c2 nt t1 h1 _ _ _ hl e1 a1 w1 ht1 hr1) fun ex a w hp=>hp.mono he
  ·refine wp_mono (hD.code c1 nt t h _ _ _ hc e a w ht hr) ?_;rintro ex a1 w1 ⟨rfl,hp⟩;cases x with
  |normal=>exact absurd rfl hne
  |exit id=>exact ⟨rfl,hp⟩
  |goto l=>exact ⟨rfl,hp⟩
  |ret=>exact ⟨rfl,hp⟩
|cond y c1 c2 =>
  have hx':yc (aev t y) (D.code c1 nt t h) (D.code c2 nt t h)=some (x,t',h'):=hx;unfold yc at hx';split at hx'
  ·rename_i hy;have h1:=LM ht _ _ hy;generalize hq:a.eval y=q at h1;cases h1;exact wp_cond_true hq (hD.code c1 nt t h _ _ _ hx' e a w ht hr)
  ·rename_i hy;have h1:=LM ht _ _ hy;generalize hq:a.eval y=q at h1;cases h1;exact wp_cond_false hq (hD.code c2 nt t h _ _ _ hx' e a w ht hr)
  ·cases hx'
|block i c1 =>
  have hx':gK i (D.code c1 nt t h)=some (x,t',h'):=hx;refine wp_block ?_;unfold gK at hx';split at hx'
  ·rename_i j t1 h1 hc;refine wp_mono (hD.code c1 nt t h _ _ _ hc e a w ht hr) ?_;rintro ex a1 w1 ⟨rfl,e1,he,ht1,hr1⟩;show if j=i then _ else _
   cases hb:Nat.beq j i with
  |true =>
    rw [hb] at hx';cases hx';rw [if_pos (n_q hb)];exact ⟨rfl,e1,he,ht1,hr1⟩
  |false =>
    rw [hb] at hx';cases hx';rw [if_neg (fun e=>by subst e;rw [Nat.beq_refl] at hb;cases hb)];exact ⟨rfl,e1,he,ht1,hr1⟩
  ·rename_i z hz;refine wp_mono (hD.code c1 nt t h _ _ _ hx' e a w ht hr) ?_;rintro ex a1 w1 ⟨rfl,hp⟩;cases x with
  |normal=>exact ⟨rfl,hp⟩
  |exit id=>exact absurd hx' (hz id t' h')
  |goto l=>exact ⟨rfl,hp⟩
  |ret=>exact ⟨rfl,hp⟩
|loop c1 =>
  have hx':D.loop c1 nt t h=some (x,t',h'):=hx;intro b k cs;obtain ⟨ex,a1,w1,hp,harr⟩:=hD.loop c1 nt t h _ _ _ hx' e a w ht hr b k cs;exact ⟨ex,a1,w1,hp,.of_steps (.one step_loop) harr⟩
|scope c1=>cases hx
|region id ops d =>
  have hx':LP (cond d (Wn P D.call ops nt t h) (fU P D.call ops nt ops.toList t h))=some (x,t',h'):=hx;unfold LP at hx';split at hx'
  ·rename_i t1 h1 hc;cases hx';cases d with
  |true=>exact eP hm (fun w0=>(hA w0).call) ht hr hc fun e' a' w' h1 h2 h3=>⟨rfl,e',h1,h2,h3⟩
  |false=>exact wp_region_list (VZ hD.call _ _ _ _ _ hc e a w ht hr fun e' a' w' h1 h2 h3=>⟨rfl,e',h1,h2,h3⟩)
  ·cases hx'
|rangeFunc f ps as b =>
  have hx':LP (XH P D.call f ps as b nt t h)=some (x,t',h'):=hx;unfold LP at hx';split at hx'
  ·rename_i t1 h1 hc;cases hx';exact XG hI (fun w0=>(hA w0).call) hc ht hr fun e' a' w' h1 h2 h3=>⟨rfl,e',h1,h2,h3⟩
  ·cases hx'
|refuse s=>cases hx
theorem PX:∀ (l:L_) (k:Nat) (t:Tm) (i:Nat),k+l.length<=BIG->i < BIG->Cc (ainit l k t) i=if k<=i then (match l[i - k]? with|some v=>v|none=>Cc t i) else Cc t i
|[],k,t,i,_,_=>by simp [ainit]
|v::l,k,t,i,hk,hi=>by
  simp only [List.length_cons] at hk;unfold ainit;rw [PX l (Nat.add k 1) _ i (by show k+1+_<=_;omega) hi,FP (by omega) hi];show (if k+1<=i then _ else _)=_;rcases Nat.lt_trichotomy i k with h1|rfl|h1
  ·rw [if_neg (show ¬ k+1<=i by omega),if_neg (show ¬ i=k by omega),if_neg (show ¬ k<=i by omega)]
  ·rw [if_neg (show ¬ i+1<=i by omega),if_pos rfl,if_pos (Nat.le_refl _)];simp
  ·rw [if_pos (show k+1<=i by omega),if_neg (show ¬ i=k by omega),if_pos (show k<=i by omega)];have:i - k=(i - (k+1))+1:=by omega
   rw [this,List.getElem?_cons_succ]
theorem Tj (hv:VRs e args args') (hn:n<=1000000) (ha:args.length<=n):TR e (ainit args 0 .nil) { tmps:=args'.toArray++Array.replicate (n - args'.toArray.size) undef,defers:=[] } n:=by
 have hl:=hv.length;have hB:BIG=16777216:=rfl;have hS:SB=1500000:=rfl;have hnil:∀ i,Cc (.nil:Tm) i=undef:=fun i=>by unfold Cc;rw [Tr.get_nil];rfl
 refine ⟨fun i hi=>?_,by simp;omega,hn,?_⟩
 rotate_left
 ·rw [PX args 0 .nil SB (by omega) (by decide),if_pos (Nat.zero_le _),Nat.sub_zero,List.getElem?_eq_none (by omega)];simp only;rw [hnil];exact DR.nil
 rw [PX args 0 .nil i (by omega) (JC hi),if_pos (Nat.zero_le _),Nat.sub_zero];cases hg:args[i]? with
|some v =>
  obtain ⟨u,h1,h2⟩:=hv.get hg;have hi':i < args'.length:=(List.getElem?_eq_some_iff.1 h1).1
  have:(args'.toArray++Array.replicate (n - args'.toArray.size) undef).getD i undef=u:=by
   rw [Array.getD_eq_getD_getElem?,Array.getElem?_append_left (by simpa using hi')];simp [h1]
  simp only [this];exact h2
|none =>
  have hi':args'.length<=i:=by rw [hl];exact List.getElem?_eq_none_iff.1 hg
  have:(args'.toArray++Array.replicate (n - args'.toArray.size) undef).getD i undef=undef:=by
   rw [Array.getD_eq_getD_getElem?,Array.getElem?_append_right (by simpa using hi')];simp only [List.size_toArray,Array.getElem?_replicate];split<;>rfl
  simp only [this,hnil i];exact .undef
theorem MC {α β:Type} {f:α->Sem β} {x:α} {l:List α} {u:β} {us:List β} (h1:(f x).run P w=.ok u w) (h2:(l.mapM f).run P w=.ok us w):((x::l).mapM f).run P w=.ok (u::us) w:=by
 rw [List.mapM_cons,s_b,h1];simp only [r_o,s_b,h2,s_p]
theorem JG {e:En} {t:Tm} {a:Act} {nt:Nat} {h:AH} {w:World} (ht:TR e t a nt) (hr:HX e h w0 w):∀ (l:List ResultVar) (vs:L_),JU P t h l=some vs ->
  ∃ us,(l.mapM (fun r=>match r with|.tmp t=>pure (a.tmps.getD t undef)|.cell p t=>do loadVar t (<- asAddr (a.tmps.getD p undef)):ResultVar->Sem Value)).run P w=.ok us w/\VRs e vs us
|[],vs,hx=>by cases hx;exact ⟨[],by simp,.nil⟩
|.tmp i::l,vs,hx=>by
  unfold JU at hx;split at hx
  ·rename_i m hm;cases hb:Nat.ble i 1000000 with
  |false=>rw [hb] at hx;cases hx
  |true =>
    rw [hb] at hx;cases hx;obtain ⟨us,h1,h2⟩:=JG ht hr l m hm;exact ⟨a.tmps.getD i undef::us,MC rfl h1,.cons (ht.slots i (YW hb)) h2⟩
  ·cases hx
|.cell i ty::l,vs,hx=>by
  unfold JU at hx;split at hx
  ·rename_i v m hv hm;cases hb:Nat.ble i 1000000 with
  |false=>rw [hb] at hx;cases hx
  |true =>
    rw [hb] at hx;cases hx;obtain ⟨us,h1,h2⟩:=JG ht hr l m hm;have hs:=ht.slots i (YW hb);obtain ⟨k,off,hk,hap⟩:=Ub hr hv;injection hk with hk;rw [hk] at hs;generalize hq:a.tmps.getD i undef=q at hs;cases hs;rename_i g c hg;obtain ⟨cs,hc,hv⟩:=hap g c hg;obtain ⟨ds,d1,d2,d3⟩:=hr.rowIs hg hc;obtain ⟨u,d4,d5⟩:=U9 hv d1 d2 d3;refine ⟨u::us,?_,.cons d5 h2⟩;refine MC ?_ h1;simp only [s_b,hq,asAddr,s_p,r_o,d4]
  ·cases hx
theorem MB {t:Tm} {fn:Func} (ht:TR e t a nt) (hr:HX e h w0 w) {vs:L_} (hx:JU P t h fn.results.toList=some vs):∃ u,(results fn a.tmps).run P w=.ok u w/\VR e (A2J vs) u:=by
 obtain ⟨us,h1,h2⟩:=JG ht hr _ _ hx;have hl:=h2.length;refine ⟨A2J us,?_,?_⟩
 ·unfold results;rw [s_b,Array.mapM_eq_mapM_toList]
  have:(Functor.map List.toArray (fn.results.toList.mapM (fun r=>match r with|.tmp t=>pure (a.tmps.getD t undef)|.cell p t=>do loadVar t (<- asAddr (a.tmps.getD p undef)):ResultVar->Sem Value))).run P w=.ok us.toArray w:=by
   rw [map_eq_pure_bind,s_b,h1];rfl
  refine Eq.trans (congrArg (fun z:Result A_=>z.andThen fun b w'=>Sem.run P (pure (if h:b.size=1 then b[0] else Value.tuple b)) w') this) ?_;simp only [r_o];cases us with
 |nil=>rfl
 |cons u us=>cases us<;>rfl
 ·cases h2 with
 |nil=>exact .tuple .nil
 |cons hv ht2 =>
   cases ht2 with
  |nil=>exact hv
  |cons hv2 ht3=>exact .tuple (.cons hv (.cons hv2 ht3))
def N8 (P:Program) (S:QG):Prop:=∀ D,(∀ w0,Kt P D w0)->∀ f args h v h',S D f args h=some (some (v,h'))->∀ w0 e w args',VRs e args args'->HX e h w0 w ->
 Calls P f args'.toArray w fun x w'=>∃ u e',x=.returned u/\e.le e'/\VR e' v u/\HX e' h' w0 w'
theorem fF {D:AI} (hK:G6 P) (hS:N8 P S) (hA:∀ w0,Kt P D w0) (w0:Base):F8 P (yg P S D) w0:=by
 have hD:=hA w0;refine ⟨hK,?_⟩;intro f args h v h' hx e w args' hv hr;unfold yg at hx;split at hx
 ·rename_i y hy;subst hx;exact hS D hA f args h v h' hy w0 e w args' hv hr
 ·split at hx
  ·rename_i fn hf;unfold aBody at hx;split at hx
   ·rename_i c hc;cases hb:(Nat.ble fn.ntmps 1000000 && Nat.ble args.length fn.ntmps) with
   |false=>rw [hb] at hx;cases hx
   |true =>
     rw [hb] at hx;simp only [cond_true] at hx;rw [b_t] at hb;have hn:=n_l hb.1;have ha:=n_l hb.2;refine callsIn_wide.1 (callsIn_of_wp_marks (n:=9) hf hc trivial (wpIn_wide.2 ?_))
     have key:∀ {x:AX} {t':Tm} {h2:AH},D.code c fn.ntmps (ainit args 0 .nil) h=some (x,t',h2)->(x=.normal\/x=.ret)->ZY P fn.results.toList t' h2=some (v,h') ->
       c.wp P (bodyPostM Fence.wide 9 P fn fun x w'=>∃ u e',x=.returned u/\e.le e'/\VR e' v u/\HX e' h' w0 w') { tmps:=args'.toArray++Array.replicate (fn.ntmps - args'.toArray.size) undef,defers:=[] } w:=by
      intro x t' h2 hd hxx hres;refine wp_mono (hD.code c _ _ _ _ _ _ hd e _ w (Tj hv hn ha) hr) ?_;rintro ex a1 w1 ⟨rfl,e1,he,ht1,hr1⟩
      have hend:LeavesInM Fence.wide 9 P fn a1.tmps (fun x w'=>∃ u e',x=.returned u/\e.le e'/\VR e' v u/\HX e' h' w0 w') a1.defers .returning w1:=by
       unfold ZY at hres;split at hres
       ·rename_i ms hms;split at hres
        ·rename_i h3 hdr;split at hres
         ·rename_i l hl;cases hres;obtain ⟨ks,k1,k2,k3⟩:=ht1.defers;rw [k1] at hms;have hmk:=Hu (show marksOf (ks.map fun k=>Value.map (some k.1))=some ms from hms)
          have hms2:ms=ks.map (·.1):=by
           have h9:=congrArg (List.map fun v:Value=>match v with|.map (some k)=>k|_=>0) hmk;simpa [Function.comp_def] using h9.symm
          subst hms2;rw [k2];refine ends ks h2 _ w1 hdr k3 hr1 fun w' hr'=>?_;obtain ⟨u,q1,q2⟩:=MB (fn:=fn) ht1 hr' hl;exact ⟨u,q1,u,e1,rfl,he,q2,hr'⟩
         ·cases hres
        ·cases hres
       ·cases hres
      rcases hxx with rfl|rfl
      ·exact hend
      ·exact hend
     split at hx
     ·rename_i t' h2 hd;exact key hd (.inl rfl) hx
     ·rename_i t' h2 hd;exact key hd (.inr rfl) hx
     ·cases hx
   ·cases hx
  ·cases hx
theorem KZ {S:QG} (hK:G6 P) (hI:A0Z P) (hm:P.follows .mixedOrders=true) (hS:N8 P S):∀ n w0,Kt P (ai P S n) w0
|0,w0=>⟨⟨hK,fun _ _ _ _ _ h=>(by cases h)⟩,fun _ _ _ _ _ _ _ h=>(by cases h),fun _ _ _ _ _ _ _ h=>(by cases h)⟩
|n+1,w0=>⟨fF hK hS (KZ hK hI hm hS n) w0,fB hI hm (KZ hK hI hm hS n) w0,dM (KZ hK hI hm hS n w0)⟩
end
end Go.Proofs.YtkpbhdhkdonghaaGreat
