/-
  Part 43 of the proof.
-/
import Derived.Test.YtkpbhdhkdonghaaGreatD41
set_option linter.all false
namespace Go.Proofs.YtkpbhdhkdonghaaGreat
open Go Go.RowKit
noncomputable section
variable {w0:Base} {e:En} {Hs K:List (Nat × AO)} {A args args':L_} {N i k n:Nat} {a b:Value} {w:World}
section
variable {P:Program} {nt:Nat} {t t1 t':Tm} {h h1 h':AH} {x:AX} {c c1 c2:Code}
def Ea (P:Program) (nt:Nat) (c:Code) (t:Tm) (h:AH) (x:AX) (t':Tm) (h':AH):Prop:=∀ w0 e a w,TR e t a nt->HX e h w0 w->c.wp P (Qz w0 e nt x t' h') a w
def Dj (P:Program) (nt:Nat) (c:Code) (t:Tm) (h:AH) (x:AX) (t':Tm) (h':AH):Prop:=∀ w0 e a w,TR e t a nt->HX e h w0 w ->
 ∀ (b:Frame) (k:List Item) (cs:List Frame),∃ ex a' w',Qz w0 e nt x t' h' ex a' w'/\Arrives P (lone (b.at a (.code c::.inLoop c::k)) cs w) b k cs ex a' w'
theorem Ea.of {D:AI} (hD:∀ w0,Kt P D w0) (hx:D.code c nt t h=some (x,t',h')):Ea P nt c t h x t' h':=fun w0 e a w ht hr=>(hD w0).code c nt t h _ _ _ hx e a w ht hr
theorem Dj.of {D:AI} (hD:∀ w0,Kt P D w0) (hx:D.loop c nt t h=some (x,t',h')):Dj P nt c t h x t' h':=fun w0 e a w ht hr b k cs=>(hD w0).loop c nt t h _ _ _ hx e a w ht hr b k cs
theorem Ea.seq (q1:Ea P nt c1 t h .normal t1 h1) (q2:Ea P nt c2 t1 h1 x t' h'):Ea P nt (.seq c1 c2) t h x t' h':=by
 intro w0 e a w ht hr;refine wp_seq (wp_mono (q1 w0 e a w ht hr) ?_);rintro ex a1 w1 ⟨rfl,e1,he,ht1,hr1⟩;exact wp_mono (q2 w0 e1 a1 w1 ht1 hr1) fun ex a w hp=>hp.mono he
theorem Ea.loop (q:Dj P nt c t h x t' h'):Ea P nt (.loop c) t h x t' h':=by
 intro w0 e a w ht hr b k cs;obtain ⟨ex,a1,w1,hp,harr⟩:=q w0 e a w ht hr b k cs;exact ⟨ex,a1,w1,hp,.of_steps (.one step_loop) harr⟩
theorem Ea.og (q:Ea P nt c t h .ret t' h'):Ea P nt (.block i c) t h .ret t' h':=by
 intro w0 e a w ht hr;refine wp_block (wp_mono (q w0 e a w ht hr) ?_);rintro ex a1 w1 ⟨rfl,hp⟩;exact ⟨rfl,hp⟩
theorem Dj.step (q1:Ea P nt c t h .normal t1 h1) (q2:Dj P nt c t1 h1 x t' h'):Dj P nt c t h x t' h':=by
 intro w0 e a w ht hr b k cs;obtain ⟨ex,a1,w1,⟨rfl,e1,he,ht1,hr1⟩,harr⟩:=q1 w0 e a w ht hr b (.inLoop c::k) cs;obtain ⟨ex2,a2,w2,hp,harr2⟩:=q2 w0 e1 a1 w1 ht1 hr1 b k cs;exact ⟨ex2,a2,w2,hp.mono he,.of_steps (Steps.trans harr (.one step_inLoop)) harr2⟩
theorem Dj.part (q:Dj P nt c t1 h1 x t' h') (ht:∀ i,i < BIG->Cc t i=Cc t1 i) (hn:h1.n=h.n) (hs:∀ k o,k < BIG->h1.t.get k=some o->h.t.get k=some o):Dj P nt c t h x t' h':=by
 intro w0 e a w hta hr b k cs;refine q w0 e a w ⟨fun i hi=>?_,hta.size,hta.small,?_⟩ (hr.part hn hs) b k cs
 ·rw [<- ht i (JC hi)];exact hta.slots i hi
 ·rw [<- ht SB (by decide)];exact hta.defers
def rounds (D:AI) (c:Code) (nt:Nat):Nat->Tm->AH->Option (Tm × AH)
|0,t,h=>some (t,h)
|k+1,t,h=>match D.code c nt t h with
 |some (.normal,t1,h1)=>rounds D c nt k t1 h1
 |_=>none
theorem Dj.rounds {D:AI} (hD:∀ w0,Kt P D w0):∀ (k:Nat) {t:Tm} {h:AH},Proofs.YtkpbhdhkdonghaaGreat.rounds D c nt k t h=some (t1,h1)->Dj P nt c t1 h1 x t' h'->Dj P nt c t h x t' h'
|0,t,h,hx,q=>by cases hx;exact q
|k+1,t,h,hx,q=>by
  unfold Proofs.YtkpbhdhkdonghaaGreat.rounds at hx;split at hx
  ·rename_i t2 h2 hc;exact .step (.of hD hc) (Dj.rounds hD k hx q)
  ·cases hx
def qG (a b:Value):Bool:=match a,b with
|.tuple x,.tuple y=>Ky x.toList y.toList
|a,b=>veq a b
theorem NQ (h:qG a b=true):a=b:=by
 unfold qG at h;split at h
 ·rename_i x y;rw [Array.ext' (Gw h)]
 ·exact qF h
def A22 (a b:OV):Bool:=qG (RY a) (RY b)
def Rl:Tm->Bool
|.nil=>true
|.node v l r=>cond (A22 v none) (cond (Rl l) (Rl r) false) false
def Wu:Tm->Tm->Bool
|.nil,s=>Rl s
|.node v l r,s=>match s with
 |.nil=>cond (A22 v none) (cond (Rl l) (Rl r) false) false
 |.node w m s=>cond (A22 v w) (cond (Wu l m) (Wu r s) false) false
theorem TQ {a b c:Bool} (h:cond a (cond b c false) false=true):a=true/\b=true/\c=true:=by
 cases a<;>cases b<;>cases c<;>first|exact ⟨rfl,rfl,rfl⟩|cases h
theorem Kz:∀ {t:Tm},Rl t=true->∀ p,RY (Tr.at p t)=RY none
|.nil,_,p=>by rw [Tr.at_nil]
|.node v l r,h,p=>by
  unfold Rl at h;obtain ⟨h1,h2,h3⟩:=TQ h;cases p with
 |e=>exact (NQ h1)
 |a p=>exact Kz h2 p
 |b p=>exact Kz h3 p
theorem QH:∀ {t s:Tm},Wu t s=true->∀ p,RY (Tr.at p t)=RY (Tr.at p s)
|.nil,s,h,p=>by
  unfold Wu at h;rw [Tr.at_nil,Kz h p]
|.node v l r,.nil,h,p=>by
  unfold Wu at h;obtain ⟨h1,h2,h3⟩:=TQ h;rw [Tr.at_nil];cases p with
 |e=>exact (NQ h1)
 |a p=>exact Kz h2 p
 |b p=>exact Kz h3 p
|.node v l r,.node w m s,h,p=>by
  unfold Wu at h;obtain ⟨h1,h2,h3⟩:=TQ h;cases p with
 |e=>exact (NQ h1)
 |a p=>exact QH h2 p
 |b p=>exact QH h3 p
def Fa:List (Nat × Value)->Tm
|[]=>.nil
|(i,v)::l=>(Fa l).put i (some v)
def A06:List (Value × Value)->List (Value × Value)->Bool
|[],[]=>true
|p::l,q::m=>cond (qG p.1 q.1) (cond (qG p.2 q.2) (A06 l m) false) false
|_,_=>false
theorem iI:∀ {a b:List (Value × Value)},A06 a b=true->a=b
|[],[],_=>rfl
|[],_::_,h=>by cases h
|_::_,[],h=>by cases h
|(x,y)::l,(u,v)::m,h=>by
  unfold A06 at h;obtain ⟨h1,h2,h3⟩:=TQ h;rw [show x=u from NQ h1,show y=v from NQ h2,iI h3]
def xO (a b:AO):Bool:=match a,b with
|.mp x,.mp y=>A06 x y
|a,b=>A0L a b
theorem xM {a b:AO} (h:xO a b=true):a=b:=by
 unfold xO at h;split at h
 ·rw [iI h]
 ·exact jW h
def Ls (h:AH):List (Nat × AO)->Bool
|[]=>true
|(k,o)::l=>cond (match h.t.get k with|some o'=>xO o' o|none=>false) (cond (Nat.ble k 16000000) (Ls h l) false) false
theorem KQ:∀ {l:List (Nat × AO)},Ls h l=true->∀ k o,(k,o) ∈ l->h.t.get k=some o/\k < BIG
|[],_,k,o,hm=>by cases hm
|(j,p)::l,hx,k,o,hm=>by
  unfold Ls at hx;obtain ⟨h1,h2,h3⟩:=TQ hx;rcases List.mem_cons.1 hm with hm|hm
  ·cases hm;split at h1
   ·rename_i o' ho;rw [ho,xM h1];have:=n_l h2;exact ⟨rfl,by show j < 16777216;omega⟩
   ·cases h1
  ·exact KQ h3 k o hm
def Ko (x:Option (Tm × AH)) (T:List (Nat × Value)) (Hs:List (Nat × AO)) (N:Nat):Bool:=match x with
|some (t,h)=>cond (Wu t (Fa T)) (cond (Nat.beq h.n N) (Ls h Hs) false) false
|none=>false
theorem Dj.next {D:AI} (hD:∀ w0,Kt P D w0) {T:List (Nat × Value)} (hc:Ko (Proofs.YtkpbhdhkdonghaaGreat.rounds D c nt k t h) T Hs N=true) (q:Dj P nt c (Fa T) ⟨layAll .nil Hs,N⟩ x t' h'):Dj P nt c t h x t' h':=by
 unfold Ko at hc;split at hc
 ·rename_i t1 h1 hx;obtain ⟨q1,q2,q3⟩:=TQ hc;have hm:=KQ q3;refine Dj.rounds hD k hx (q.part (fun i _=>QH q1 _) (n_q q2).symm fun k o hk ho=>?_);rcases Fb .nil (fun k o hm'=>(hm k o hm').2) k o hk ho with h1|⟨_,h2⟩
  ·exact (hm k o h1).1
  ·rw [QS] at h2;cases h2
 ·cases hc
def QV:Nat->Code->Code
|0,c=>c
|k+1,.seq _ b=>QV k b
|_+1,c=>c
def WO (D:AI) (nt:Nat):Nat->Code->Tm->AH->Option (Tm × AH)
|0,_,t,h=>some (t,h)
|k+1,.seq a b,t,h=>match D.code a nt t h with
 |some (.normal,t1,h1)=>WO D nt k b t1 h1
 |_=>none
|_+1,_,_,_=>none
theorem Ea.chain {D:AI} (hD:∀ w0,Kt P D w0):∀ (k:Nat) {c:Code} {t:Tm} {h:AH},WO D nt k c t h=some (t1,h1)->Ea P nt (QV k c) t1 h1 x t' h'->Ea P nt c t h x t' h'
|0,c,t,h,hx,q=>by
  have:some (t,h)=some (t1,h1):=by cases c<;>exact hx
  cases this;cases c<;>exact q
|k+1,c,t,h,hx,q=>by
  cases c with
 |seq a b =>
   unfold WO at hx;split at hx
   ·rename_i t2 h2 hc;exact .seq (.of hD hc) (Ea.chain hD k hx q)
   ·cases hx
 |_=>cases hx
def Lc (P:Program) (f:FuncId) (args:L_) (h:AH) (v:Value) (h1:AH):Prop:=∀ w0 e w args',VRs e args args'->HX e h w0 w->Calls P f args'.toArray w fun x w'=>∃ u e',x=.returned u/\e.le e'/\VR e' v u/\HX e' h1 w0 w'
theorem Lc.body {f:FuncId} {fn:Func} {v:Value} (hf:P.funcs[f]?=some fn) (hc:fn.body=some c) (hn:fn.ntmps<=1000000) (ha:args.length<=fn.ntmps)
  (hb:Ea P fn.ntmps c (ainit args 0 .nil) h .ret t' h') (hres:ZY P fn.results.toList t' h'=some (v,h1)):Lc P f args h v h1:=by
 intro w0 e w args' hv hr;refine callsIn_wide.1 (callsIn_of_wp_marks (n:=9) hf hc trivial (wpIn_wide.2 ?_));refine wp_mono (hb w0 e _ w (Tj hv hn ha) hr) ?_;rintro ex a1 w1 ⟨rfl,e1,he,ht1,hr1⟩
 have hend:LeavesInM Fence.wide 9 P fn a1.tmps (fun x w'=>∃ u e',x=.returned u/\e.le e'/\VR e' v u/\HX e' h1 w0 w') a1.defers .returning w1:=by
  unfold ZY at hres;split at hres
  ·rename_i ms hms;split at hres
   ·rename_i h3 hdr;split at hres
    ·rename_i l hl;cases hres;obtain ⟨ks,k1,k2,k3⟩:=ht1.defers;rw [k1] at hms;have hmk:=Hu (show marksOf (ks.map fun k=>Value.map (some k.1))=some ms from hms)
     have hms2:ms=ks.map (·.1):=by
      have h9:=congrArg (List.map fun v:Value=>match v with|.map (some k)=>k|_=>0) hmk;simpa [Function.comp_def] using h9.symm
     subst hms2;rw [k2];refine ends ks h' _ w1 hdr k3 hr1 fun w' hr'=>?_;obtain ⟨u,q1,q2⟩:=MB (fn:=fn) ht1 hr' hl;exact ⟨u,q1,u,e1,rfl,he,q2,hr'⟩
    ·cases hres
   ·cases hres
  ·cases hres
 exact hend
theorem YG {f:FuncId} {v:Value} (hC:Lc P f args ⟨layAll .nil Hs,N⟩ v h1) (hH:hasAll h Hs=true) (hN:h.n=N) (hK:hasAll h1 K=true)
  (hargs:VRs e args args') (hr:HX e h w0 w) :
  Calls P f args'.toArray w fun x w'=>∃ u e',x=.returned u/\e.le e'/\VR e' v u/\HX e' ⟨layAll (I4 h.t Hs) K,h1.n⟩ w0 w':=by
 have hHm:=Ip hH;have hKm:=Ip hK;have hHB:∀ k o,(k,o) ∈ Hs->k < BIG:=fun k o hm=>(hHm k o hm).2;have hKB:∀ k o,(k,o) ∈ K->k < BIG:=fun k o hm=>(hKm k o hm).2
 have hsub:∀ k o,k < BIG->(layAll .nil Hs).get k=some o->h.t.get k=some o/\(k,o) ∈ Hs:=fun k o hk ho=>by
  rcases Fb .nil hHB k o hk ho with h1|⟨_,h2⟩
  ·exact ⟨(hHm k o h1).1,h1⟩
  ·rw [QS] at h2;cases h2
 have hs:HX e ⟨layAll .nil Hs,N⟩ w0 w:=hr.part hN.symm fun k o hk ho=>(hsub k o hk ho).1
 let F:Nat->Prop:=fun g=>∃ k o c,k < BIG/\(∀ o',(k,o') ∉ Hs)/\h.t.get k=some o/\e k=some (g,c)
 have hF:∀ g,F g->g < w.heap.size:=fun g ⟨k,o,c,hk,_,ho,hke⟩=>(hr.at hke ho).2.lt
 have hG:=hs.guard (F:=F) hF (fun k o g c hk ho hke ⟨k2,o2,c2,hk2,hn2,ho2,hke2⟩=>by
  obtain ⟨q1,q2⟩:=hsub k o hk ho;have:=hr.inj k k2 o o2 g c c2 hk hk2 q1 ho2 hke hke2;subst this
  exact hn2 o q2)
 refine (hC _ e w args' hargs hG).mono ?_;rintro x w' ⟨u,e1,rfl,z1,z2,z3⟩;obtain ⟨y1,y2⟩:=hs.NR z3
 have hget:∀ k o,k < BIG->(layAll (I4 h.t Hs) K).get k=some o->h1.t.get k=some o\/((∀ o',(k,o') ∉ Hs)/\h.t.get k=some o):=fun k o hk ho=>by
  rcases Fb _ hKB k o hk ho with q|⟨_,q⟩
  ·exact .inl (hKm k o q).1
  ·exact .inr (KX h.t hHB k o hk q)
 have hrest:∀ k o,k < BIG->(∀ o',(k,o') ∉ Hs)->h.t.get k=some o->∃ g c,e k=some (g,c)/\¬ w0.K g/\OR e w g c o/\F g:=fun k o hk hn ho=>by
  obtain ⟨g,c,q1,q2,q3⟩:=hr.live k o hk ho;exact ⟨g,c,q1,q2,q3,k,o,c,hk,hn,ho,q1⟩
 have hfar:∀ k o g c,k < BIG->h1.t.get k=some o->e1 k=some (g,c)->¬ F g:=fun k o g c hk ho hke hFg=>by
  obtain ⟨g',c',q1,q2,_⟩:=z3.live k o hk ho;rw [hke] at q1;cases q1;exact q2 (.inr hFg)
 refine ⟨u,e1,rfl,z1,z2,⟨y1.below,y1.small,y1.dom,fun k o hk ho=>?_,fun k k' o o' g c c' hk hk' ho ho' a1 a2=>?_⟩⟩
 ·rcases hget k o hk ho with q|⟨q1,q2⟩
  ·exact y1.live k o hk q
  ·obtain ⟨g,c,p1,p2,p3,p4⟩:=hrest k o hk q1 q2;exact ⟨g,c,z1 _ _ p1,p2,(p3.block (y2 g p4)).mono z1⟩
 ·rcases hget k o hk ho with q|⟨q1,q2⟩
  ·rcases hget k' o' hk' ho' with r|⟨r1,r2⟩
   ·exact y1.inj k k' o o' g c c' hk hk' q r a1 a2
   ·obtain ⟨g2,c2,p1,_,_,p4⟩:=hrest k' o' hk' r1 r2;have:=z1 _ _ p1;rw [a2] at this;cases this;exact absurd p4 (hfar k o g c hk q a1)
  ·obtain ⟨g1,c1,p1,_,_,p4⟩:=hrest k o hk q1 q2;have e1k:=z1 _ _ p1;rw [a1] at e1k;cases e1k;rcases hget k' o' hk' ho' with r|⟨r1,r2⟩
   ·exact absurd p4 (hfar k' o' g c' hk' r a2)
   ·obtain ⟨g2,c2,p1',_,_,_⟩:=hrest k' o' hk' r1 r2;have:=z1 _ _ p1';rw [a2] at this;cases this;exact hr.inj k k' o o' g c c' hk hk' q2 r2 p1 p1'
theorem uQ {f:FuncId} {vs:L_} (hC:∃ h1,Lc P f A ⟨layAll .nil Hs,N⟩ (.tuple vs.toArray) h1/\h1.n=n/\hasAll h1 K=true)
  {v:Value} (hx:SE A Hs N vs n K args h=some (some (v,h'))) (hv:VRs e args args') (hr:HX e h w0 w) :
  Calls P f args'.toArray w fun x w'=>∃ u e',x=.returned u/\e.le e'/\VR e' v u/\HX e' h' w0 w':=by
 unfold SE at hx;cases h1:Ky args A with
|false=>rw [h1] at hx;cases hx
|true =>
  rw [h1] at hx;have:=Gw h1;subst this;cases h2:Nat.beq h.n N with
 |false=>rw [h2] at hx;cases hx
 |true =>
   rw [h2] at hx;cases h3:hasAll h Hs with
  |false=>rw [h3] at hx;cases hx
  |true =>
    rw [h3] at hx;cases hx;obtain ⟨g1,q1,q2,q3⟩:=hC;have:=YG q1 h3 (n_q h2) q3 hv hr;rw [q2] at this;exact this
def eF (P:Program) (fn:Func) (x:Option (AX × Tm × AH)) (v:L_) (n:Nat) (K:List (Nat × AO)):Bool:=match x with
|some (.ret,t,h)=>Lj (ZY P fn.results.toList t h) v n K
|_=>false
theorem Zr {fn:Func} {y:Option (AX × Tm × AH)} {v:L_} (hx:eF P fn y v n K=true):∃ t h h1,y=some (.ret,t,h)/\ZY P fn.results.toList t h=some (.tuple v.toArray,h1)/\h1.n=n/\hasAll h1 K=true:=by
 unfold eF at hx;split at hx
 ·rename_i t h;obtain ⟨h1,q1,q2,q3⟩:=O7 hx;exact ⟨t,h,h1,rfl,q1,q2,q3⟩
 ·cases hx
end
end
set_option maxRecDepth 100000
open Go Tryz Go.RowKit
def w6 (n:Nat):Value:=.int .i64 (.ofNat n)
def w8 (n:Nat):Value:=.int .u8 (.ofNat n)
def w4 (n:Nat):Value:=.int .u32 (.ofNat n)
def z8:L_:=(nv .u8 [0,0,0,0,0,0,0,0,0,0,0,0,0,0,0,0])
noncomputable def U0:Code:=match f12.body with|some c=>c|none=>.skip
noncomputable def J5:Code:=match QV 5 U0 with|.block _ (.loop c)=>c|_=>.skip
theorem o9:f12.body=some U0:=by kernel_rfl
theorem mW:QV 5 U0=.block 0 (.loop J5):=by kernel_rfl
def pq (n:Nat):Value:=.pointer (some ⟨n,0,none⟩)
def sq:Value:=.slice (some ⟨2982,0,none⟩) 55 4611686018427387904
def A12:L_:=[.slice (some ⟨2982,0,none⟩) 55 NOM,w6 6,w6 1,w6 6]
def H12:List (Nat × AO):=[(2982,.row Jc 1)]
noncomputable def DG:AI:=ai prog aU 100000
theorem OX:∀ w0,Kt prog DG w0:=Qx NS 100000
def T_0:List (Nat × Value):=[(0,sq),(1,w6 6),(2,w6 1),(3,w6 6),(8,.slice none 0 0),(9,w8 0),(10,w6 0),(11,.bool false),(12,pq 2988),(13,w6 0),(14,.slice none 0 0),(15,w6 0),(22,.tuple [pq 2988,w6 0].toArray),(23,w6 6),(24,.tuple [pq 2988,w6 0].toArray),(25,pq 2988),(26,w6 0),(27,w6 0),(28,.bool false),(29,.bool false),(30,pq 2988),(31,.bool false),(32,.bool false)]
def H_0:List (Nat × AO):=[(2982,.row Jc 1),(2983,.row (nv .u8 [0,0,0,0,0,0]) 0),(2984,.row [.slice (some ⟨2983,0,none⟩) 6 6,w6 0,w6 0] 0),(2985,.row [.slice none 0 0,w6 0,w6 0,.bool false] 0),(2987,.big [[w6 1,w6 0,w6 0,w6 0,w6 0,w6 0,w6 0,w6 0,w6 0,w6 0,w4 0,w6 0,w8 0,w8 0,w8 0,w8 0],z8,z8,z8,z8,z8,z8,z8,z8,z8,z8,z8,z8,z8,z8,z8,[w8 0,w8 0,w8 0,w8 0,w8 0,w8 0,w8 0,w8 0,w8 0,w8 0,w8 0,w8 0,w8 0,w8 0,w6 0,w6 0],[w6 0,w6 0,w8 0,w8 0,w8 0,w8 0,w8 0,w8 0,w8 0,w8 0,w8 0,w8 0,w8 0,w8 0,w8 0,w8 0],z8,z8,z8,z8,z8,z8,z8,z8,z8,z8,z8,z8,z8,z8,z8,[w8 0,w8 0,w8 0,w8 0,w6 0,w6 0,w8 0,w8 0,w8 0,w8 0,w8 0,w8 0,w8 0,w8 0,w8 0,w8 0],z8,z8,z8,z8,z8,z8,z8,z8,z8,z8,z8,z8,z8,z8,z8,[w8 0,w8 0,w8 0,w8 0,w8 0,w8 0,w6 0,w6 0,w6 0,.bool false,w6 0]]),(2988,.row [w6 6,w8 0,pq 2984,pq 2985,pq 2987,.slice none 0 0,w6 0,w6 0,w4 0,w6 0,.nilIface,w6 0,w6 0,w4 0,w6 0] 0)]
def N_0:Nat:=2989
def TG8 (x0 x1 x2 x3 x4 x5:Nat):List (Nat × Value):=[(0,sq),(1,w6 6),(2,w6 1),(3,w6 6),(8,.slice none 0 0),(9,w8 0),(10,w6 0),(11,.bool false),(12,pq 2988),(13,w6 0),(14,.slice none 0 0),(15,w6 x0),(16,w6 x1),(17,w8 0),(18,w8 2),(19,w6 0),(20,w6 8483),(21,w6 0),(22,.tuple [pq 2988,w6 0].toArray),(23,w6 6),(24,.tuple [pq 2988,w6 0].toArray),(25,pq 2988),(26,w6 0),(27,w6 0),(28,.bool false),(29,.bool false),(30,pq 2988),(31,.bool false),(32,.bool false),(34,w6 x2),(35,w6 1),(36,w6 x0),(37,w6 x2),(38,sq),(39,w6 55),(40,.bool true),(41,pq 2988),(42,sq),(43,w6 x2),(44,w6 x2),(45,w6 1),(46,w6 x0),(47,sq),(48,w6 55),(49,w6 x0),(50,.slice (some ⟨2982,x2,none⟩) 1 x3),(51,.slice (some ⟨x4,0,none⟩) 1 1),(52,.bool true),(55,pq 2988),(56,w6 x1),(57,.tuple [w8 0,w8 2,w6 0].toArray),(58,pq 2988),(59,.tuple [w8 0,w8 2,w6 0].toArray),(60,w8 0),(61,w8 2),(62,w6 0),(63,.tuple [w6 8483,w6 0].toArray),(64,w6 6),(65,pq 2988),(66,w8 2),(67,.tuple [w6 8483,w6 0].toArray),(68,w6 8483),(69,w6 0),(70,pq 2988),(71,w6 6),(72,w6 6),(73,.bool false),(74,.bool false),(75,w6 0),(76,.bool true),(77,.bool true),(78,pq 2988),(79,w6 x5),(80,w6 x1),(81,w6 8),(82,w6 8483),(83,.bool false),(84,.bool false),(85,.bool false),(86,w8 2),(87,.bool false),(92,w8 2),(93,.bool false),(94,.bool false),(95,w6 x2),(96,sq),(97,w6 55),(98,.bool false),(99,.bool false)]
def T_8:List (Nat × Value):=TG8 8 56 7 4611686018427387897 3182 64
def HG8 (x0 x1 x2 x3 x4 x5 x6 x7 x8 x9 x10 x11:Nat):List (Nat × AO):=[(2982,.row Jc 1),(2983,.row (nv .u8 [0,0,0,0,0,0]) 0),(2984,.row [.slice (some ⟨2983,0,none⟩) 6 6,w6 6,w6 6] 0),(2985,.row [.slice (some ⟨x0,1,none⟩) 0 4611686018427387903,w6 0,w6 x1,.bool false] 0),(2987,.big [[w6 x2,w6 4,w6 0,w6 0,w6 6,w6 x3,w6 0,w6 0,w6 6,w6 3,w4 x4,w6 x5,w8 x6,w8 x6,w8 0,w8 0],z8,z8,z8,z8,z8,z8,z8,z8,z8,z8,z8,z8,z8,z8,z8,[w8 0,w8 0,w8 0,w8 0,w8 0,w8 0,w8 0,w8 0,w8 0,w8 0,w8 0,w8 0,w8 0,w8 0,w6 x7,w6 x8],[w6 0,w6 0,w8 0,w8 0,w8 0,w8 0,w8 0,w8 0,w8 0,w8 0,w8 0,w8 0,w8 0,w8 0,w8 0,w8 0],z8,z8,z8,z8,z8,z8,z8,z8,z8,z8,z8,z8,z8,z8,z8,[w8 0,w8 0,w8 0,w8 0,w6 0,w6 0,w8 0,w8 0,w8 0,w8 0,w8 0,w8 0,w8 0,w8 0,w8 0,w8 0],z8,z8,z8,z8,z8,z8,z8,z8,z8,z8,z8,z8,z8,z8,z8,[w8 0,w8 0,w8 0,w8 0,w8 0,w8 0,w6 0,w6 0,w6 0,.bool false,w6 0]]),(2988,.row [w6 6,w8 2,pq 2984,pq 2985,pq 2987,.slice (some ⟨3084,0,none⟩) 2 4611686018427387904,w6 x9,w6 x6,w4 x10,w6 0,.nilIface,w6 0,w6 0,w4 0,w6 0] 0),(3084,.row [w6 0,w6 6,w6 6,w6 0] 2),(x0,.row [w8 x11] 1)]
def H_8:List (Nat × AO):=HG8 3183 64 2 3 3 1 0 0 0 0 0 3
def N_8:Nat:=3206
def T_16:List (Nat × Value):=TG8 16 120 15 4611686018427387889 3491 128
def H_16:List (Nat × AO):=HG8 3492 128 3 4 59467727 4 3 30 4 6 59467727 0
def N_16:Nat:=3543
def T_24:List (Nat × Value):=TG8 24 184 23 4611686018427387881 3907 192
def H_24:List (Nat × AO):=HG8 3908 192 3 4 59467727 4 3 94 4 6 59467727 0
def N_24:Nat:=3959
def T_32:List (Nat × Value):=TG8 32 248 31 4611686018427387873 4323 256
def HG32 (x0 x1 x2:Nat):List (Nat × AO):=[(2982,.row Jc 1),(2983,.row (nv .u8 [0,0,0,0,0,0]) 0),(2984,.row [.slice (some ⟨2983,0,none⟩) 6 6,w6 6,w6 6] 0),(2985,.row [.slice (some ⟨x0,1,none⟩) 0 4611686018427387903,w6 0,w6 x1,.bool false] 0),(2987,.big [[w6 3,w6 4,w6 0,w6 0,w6 6,w6 4,w6 0,w6 0,w6 6,w6 3,w4 59467727,w6 4,w8 3,w8 3,w8 0,w8 0],z8,z8,z8,z8,z8,(nv .u8 [0,0,0,0,0,0,0,0,0,0,0,0,0,0,0,3]),(nv .u8 [3,0,0,0,0,0,0,0,0,0,0,2,0,0,0,0]),z8,z8,z8,z8,z8,z8,z8,z8,[w8 0,w8 0,w8 0,w8 0,w8 0,w8 0,w8 0,w8 0,w8 0,w8 0,w8 0,w8 0,w8 0,w8 0,w6 x2,w6 4],[w6 0,w6 0,w8 0,w8 0,w8 0,w8 0,w8 0,w8 0,w8 0,w8 0,w8 0,w8 0,w8 0,w8 0,w8 0,w8 0],z8,z8,z8,z8,z8,z8,z8,z8,z8,z8,z8,z8,z8,z8,z8,[w8 0,w8 0,w8 0,w8 0,w6 0,w6 0,w8 0,w8 0,w8 0,w8 0,w8 0,w8 0,w8 0,w8 0,w8 0,w8 0],z8,z8,z8,z8,z8,z8,z8,z8,z8,z8,z8,z8,z8,z8,z8,[w8 0,w8 0,w8 0,w8 0,w8 0,w8 0,w6 0,w6 0,w6 0,.bool false,w6 0]]),(2988,.row [w6 6,w8 2,pq 2984,pq 2985,pq 2987,.slice (some ⟨3084,0,none⟩) 2 4611686018427387904,w6 6,w6 3,w4 59467727,w6 0,.nilIface,w6 0,w6 0,w4 0,w6 0] 0),(3084,.row [w6 0,w6 6,w6 6,w6 0] 2),(x0,.row [w8 0] 1)]
def H_32:List (Nat × AO):=HG32 4324 256 138
def N_32:Nat:=4375
def T_40:List (Nat × Value):=TG8 40 312 39 4611686018427387865 4739 320
def H_40:List (Nat × AO):=HG32 4740 320 202
def N_40:Nat:=4791
def T_48:List (Nat × Value):=TG8 48 376 47 4611686018427387857 5155 384
def H_48:List (Nat × AO):=[(2982,.row Jc 1),(2983,.row (nv .u8 [98,0,0,0,0,0]) 0),(2984,.row [.slice (some ⟨2983,0,none⟩) 6 6,w6 6,w6 6] 0),(2985,.row [.slice (some ⟨5156,1,none⟩) 0 4611686018427387903,w6 0,w6 384,.bool false] 0),(2987,.big [[w6 4,w6 4,w6 0,w6 0,w6 6,w6 4,w6 0,w6 0,w6 6,w6 3,w4 59467727,w6 4,w8 3,w8 3,w8 0,w8 0],z8,z8,z8,z8,z8,(nv .u8 [0,0,0,0,0,0,0,0,0,0,0,0,0,0,0,3]),(nv .u8 [3,0,0,0,0,0,0,0,0,0,0,2,0,0,0,0]),z8,z8,z8,z8,z8,z8,z8,z8,[w8 0,w8 0,w8 0,w8 0,w8 0,w8 0,w8 0,w8 0,w8 0,w8 0,w8 0,w8 0,w8 0,w8 2,w6 258,w6 4],[w6 2,w6 0,w8 3,w8 3,w8 0,w8 0,w8 0,w8 0,w8 0,w8 0,w8 0,w8 0,w8 0,w8 0,w8 0,w8 0],z8,z8,z8,z8,z8,(nv .u8 [0,0,0,0,0,3,3,0,0,0,0,0,0,0,0,0]),(nv .u8 [0,2,0,0,0,0,0,0,0,0,0,0,0,0,0,0]),z8,z8,z8,z8,z8,z8,z8,z8,[w8 0,w8 0,w8 0,w8 2,w6 0,w6 1,w8 98,w8 0,w8 1,w8 2,w8 3,w8 4,w8 5,w8 6,w8 7,w8 8],(nv .u8 [9,10,11,12,13,14,15,16,17,18,19,20,21,22,23,24]),(nv .u8 [25,26,27,28,29,30,31,32,33,34,35,36,37,38,39,40]),(nv .u8 [41,42,43,44,45,46,47,48,49,50,51,52,53,54,55,56]),(nv .u8 [57,58,59,60,61,62,63,64,65,66,67,68,69,70,71,72]),(nv .u8 [73,74,75,76,77,78,79,80,81,82,83,84,85,86,87,88]),(nv .u8 [89,90,91,92,93,94,95,96,97,99,100,101,102,103,104,105]),(nv .u8 [106,107,108,109,110,111,112,113,114,115,116,117,118,119,120,121]),(nv .u8 [122,123,124,125,126,127,128,129,130,131,132,133,134,135,136,137]),(nv .u8 [138,139,140,141,142,143,144,145,146,147,148,149,150,151,152,153]),(nv .u8 [154,155,156,157,158,159,160,161,162,163,164,165,166,167,168,169]),(nv .u8 [170,171,172,173,174,175,176,177,178,179,180,181,182,183,184,185]),(nv .u8 [186,187,188,189,190,191,192,193,194,195,196,197,198,199,200,201]),(nv .u8 [202,203,204,205,206,207,208,209,210,211,212,213,214,215,216,217]),(nv .u8 [218,219,220,221,222,223,224,225,226,227,228,229,230,231,232,233]),(nv .u8 [234,235,236,237,238,239,240,241,242,243,244,245,246,247,248,249]),[w8 250,w8 251,w8 252,w8 253,w8 254,w8 255,w6 5,w6 0,w6 0,.bool false,w6 0]]),(2988,.row [w6 6,w8 2,pq 2984,pq 2985,pq 2987,.slice (some ⟨3084,0,none⟩) 2 4611686018427387904,w6 6,w6 3,w4 59467727,w6 1,.nilIface,w6 0,w6 0,w4 0,w6 0] 0),(3084,.row [w6 0,w6 6,w6 6,w6 0] 2),(5156,.row [w8 76] 1)]
def N_48:Nat:=5266
def T_52:List (Nat × Value):=[(0,sq),(1,w6 6),(2,w6 1),(3,w6 6),(8,.slice none 0 0),(9,w8 0),(10,w6 0),(11,.bool false),(12,pq 2988),(13,w6 0),(14,.slice (some ⟨5633,0,none⟩) 6 4611686018427387904),(15,w6 52),(16,w6 471),(17,w8 0),(18,w8 2),(19,w6 0),(20,w6 8483),(21,w6 0),(22,.tuple [pq 2988,w6 0].toArray),(23,w6 6),(24,.tuple [pq 2988,w6 0].toArray),(25,pq 2988),(26,w6 0),(27,w6 0),(28,.bool false),(29,.bool false),(30,pq 2988),(31,.bool false),(32,.bool false),(34,w6 51),(35,w6 1),(36,w6 52),(37,w6 51),(38,sq),(39,w6 55),(40,.bool true),(41,pq 2988),(42,sq),(43,w6 51),(44,w6 51),(45,w6 1),(46,w6 52),(47,sq),(48,w6 55),(49,w6 52),(50,.slice (some ⟨2982,51,none⟩) 1 4611686018427387853),(51,.slice (some ⟨5668,0,none⟩) 1 1),(52,.bool true),(55,pq 2988),(56,w6 471),(57,.tuple [w8 0,w8 2,w6 0].toArray),(58,pq 2988),(59,.tuple [w8 0,w8 2,w6 0].toArray),(60,w8 0),(61,w8 2),(62,w6 0),(63,.tuple [w6 8483,w6 0].toArray),(64,w6 6),(65,pq 2988),(66,w8 2),(67,.tuple [w6 8483,w6 0].toArray),(68,w6 8483),(69,w6 0),(70,pq 2988),(71,w6 6),(72,w6 6),(73,.bool false),(74,.bool false),(75,w6 0),(76,.bool true),(77,.bool true),(78,pq 2988),(79,w6 479),(80,w6 471),(81,w6 8),(82,w6 8483),(83,.bool false),(84,.bool false),(85,.bool false),(86,w8 2),(87,.bool false),(88,.slice (some ⟨5622,0,none⟩) 5 4611686018427387904),(89,w8 97),(90,.slice (some ⟨5632,0,none⟩) 1 1),(91,.slice (some ⟨5633,0,none⟩) 6 4611686018427387904),(92,w8 2),(93,.bool false),(94,.bool false),(95,w6 51),(96,sq),(97,w6 55),(98,.bool false),(99,.bool false)]
def H_52:List (Nat × AO):=[(2982,.row Jc 1),(2983,.row (nv .u8 [98,110,110,97,97,97]) 0),(2984,.row [.slice (some ⟨2983,0,none⟩) 6 6,w6 6,w6 6] 0),(2985,.row [.slice (some ⟨5669,1,none⟩) 0 4611686018427387903,w6 0,w6 416,.bool false] 0),(2987,.big [[w6 2,w6 4,w6 0,w6 0,w6 6,w6 5,w6 0,w6 0,w6 0,w6 0,w4 3,w6 1,w8 3,w8 3,w8 0,w8 0],z8,z8,z8,z8,z8,(nv .u8 [0,0,0,0,0,0,0,0,0,0,0,0,0,0,0,3]),(nv .u8 [3,0,0,0,0,0,0,0,0,0,0,2,0,0,0,0]),z8,z8,z8,z8,z8,z8,z8,z8,[w8 0,w8 0,w8 0,w8 0,w8 0,w8 0,w8 0,w8 0,w8 0,w8 0,w8 0,w8 0,w8 0,w8 2,w6 258,w6 4],[w6 2,w6 0,w8 3,w8 3,w8 0,w8 0,w8 0,w8 0,w8 0,w8 0,w8 0,w8 0,w8 0,w8 0,w8 0,w8 0],z8,z8,z8,z8,z8,(nv .u8 [0,0,0,0,0,3,3,0,0,0,0,0,0,0,0,0]),(nv .u8 [0,2,0,0,0,0,0,0,0,0,0,0,0,0,0,0]),z8,z8,z8,z8,z8,z8,z8,z8,[w8 0,w8 0,w8 0,w8 2,w6 0,w6 0,w8 97,w8 110,w8 98,w8 0,w8 1,w8 2,w8 3,w8 4,w8 5,w8 6],(nv .u8 [7,8,9,10,11,12,13,14,15,16,17,18,19,20,21,22]),(nv .u8 [23,24,25,26,27,28,29,30,31,32,33,34,35,36,37,38]),(nv .u8 [39,40,41,42,43,44,45,46,47,48,49,50,51,52,53,54]),(nv .u8 [55,56,57,58,59,60,61,62,63,64,65,66,67,68,69,70]),(nv .u8 [71,72,73,74,75,76,77,78,79,80,81,82,83,84,85,86]),(nv .u8 [87,88,89,90,91,92,93,94,95,96,99,100,101,102,103,104]),(nv .u8 [105,106,107,108,109,111,112,113,114,115,116,117,118,119,120,121]),(nv .u8 [122,123,124,125,126,127,128,129,130,131,132,133,134,135,136,137]),(nv .u8 [138,139,140,141,142,143,144,145,146,147,148,149,150,151,152,153]),(nv .u8 [154,155,156,157,158,159,160,161,162,163,164,165,166,167,168,169]),(nv .u8 [170,171,172,173,174,175,176,177,178,179,180,181,182,183,184,185]),(nv .u8 [186,187,188,189,190,191,192,193,194,195,196,197,198,199,200,201]),(nv .u8 [202,203,204,205,206,207,208,209,210,211,212,213,214,215,216,217]),(nv .u8 [218,219,220,221,222,223,224,225,226,227,228,229,230,231,232,233]),(nv .u8 [234,235,236,237,238,239,240,241,242,243,244,245,246,247,248,249]),[w8 250,w8 251,w8 252,w8 253,w8 254,w8 255,w6 0,w6 0,w6 0,.bool true,w6 0]]),(2988,.row [w6 6,w8 2,pq 2984,pq 2985,pq 2987,.slice (some ⟨3084,0,none⟩) 2 4611686018427387904,w6 6,w6 3,w4 59467727,w6 6,.nilIface,w6 63,w6 6,w4 59467727,w6 0] 0),(3084,.row [w6 0,w6 6,w6 6,w6 0] 2),(5633,.row (nv .u8 [98,97,110,97,110,97]) 1),(5669,.row [w8 3] 1)]
def N_52:Nat:=5692
theorem aP:Ko (WO DG 105 5 U0 (ainit A12 0 .nil) ⟨layAll .nil H12,2983⟩) T_0 H_0 N_0=true:=by kernel_rfl
end Go.Proofs.YtkpbhdhkdonghaaGreat
