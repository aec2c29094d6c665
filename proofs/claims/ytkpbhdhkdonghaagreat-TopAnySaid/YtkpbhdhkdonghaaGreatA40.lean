/-
  Part 40 of the proof.
-/
import Derived.Test.YtkpbhdhkdonghaaGreatA37
import Derived.Test.YtkpbhdhkdonghaaGreatA39
set_option linter.all false
set_option maxRecDepth 100000
namespace Go.Proofs.YtkpbhdhkdonghaaGreat
open Go Tryz Go.RowKit
def spread (a b c:Int):I_:=[a,a]++(List.replicate 97 0++([a,a]++(List.replicate 10 0++(b::(List.replicate 145 0++[c])))))
def P9:I_:=spread 3 2 2
def ahead (p:N_):I_:=(p++(List.range 256).filter fun x=>!p.contains x).map Int.ofNat
noncomputable def okB (l:I_):Bool:=l.all fun x=>decide (0<=x/\x < 256)
theorem A14 {l:I_} (h:okB l=true):Bytes l:=fun x hx=>of_decide_eq_true (List.all_eq_true.1 h x hx)
noncomputable def T1:List Ent:=[(147,[],.agg (vs .u32 (Jo 256)).toArray),(169,[],.agg (vs .u8 new).toArray),(192,[],.agg (EV new 0)),(249,[.agg (vs .u8 P9).toArray],.int .i64 32768),(168,[.agg (vs .u8 P9).toArray],.bool true),
 (215,[.agg (vs .u8 (ahead [])).toArray],.bool true),(215,[.agg (vs .u8 (ahead [98])).toArray],.bool true),(215,[.agg (vs .u8 (ahead [110,98])).toArray],.bool true),(215,[.agg (vs .u8 (ahead [97,110,98])).toArray],.bool true),
 (110,[.int .i64 6,.int .i64 6,.int .u8 1],.tuple #[.int .u8 2,.int .i64 0]),(40,[.int .i64 6,.int .u8 1,.int .u8 2],.tuple #[.int .i64 6,.int .i64 0])]
theorem A8C:P9.length=258:=by kernel_rfl
theorem y9:Bytes P9:=A14 (by kernel_rfl)
theorem pq (p:N_) (h:((ahead p).length=256/\vld (ahead p)=true)/\okB (ahead p)=true):Gives prog (215,[.agg (vs .u8 (ahead p)).toArray],.bool true) :=
 ⟨⟨by simp [Nq,Hq],rfl⟩,fun w=>by
  have:=P8 (ahead p) w h.1.1 (A14 h.2);rw [h.1.2] at this
  exact this⟩
theorem T1_ok:∀ x ∈ T1,Gives prog x:=by
 intro x hx;simp only [T1,List.mem_cons,List.not_mem_nil,or_false] at hx;rcases hx with rfl|rfl|rfl|rfl|rfl|rfl|rfl|rfl|rfl|rfl|rfl
 ·exact ⟨⟨rfl,by simp [Nr,Nq,Hq]⟩,TM⟩
 ·exact ⟨⟨rfl,by simp [Nr,Nq,Hq]⟩,new_any⟩
 ·exact ⟨⟨rfl,by kernel_rfl⟩,wI⟩
 ·exact ⟨⟨by simp [Nq,Hq],rfl⟩,fun w=>by
   have:=sum_any P9 w A8C y9;rw [show J6 P9 258=32768 by kernel_rfl] at this
   exact this⟩
 ·exact ⟨⟨by simp [Nq,Hq],rfl⟩,fun w=>by
   have:=table_any P9 w A8C y9;rw [show JL P9=true by kernel_rfl] at this
   exact this⟩
 ·exact xg2
 ·exact xg2
 ·exact xg2
 ·exact xg2
 ·exact ⟨⟨rfl,rfl⟩,fun w=>by
   have:=Pol.pick_any 6 6 1 w (by decide);rw [show Pol.pk 6 6 1=(2,0) by kernel_rfl] at this
   exact this⟩
 ·exact ⟨⟨rfl,rfl⟩,fun w=>by
   have:=Pol.A40 6 1 2 w (by decide) (by decide);rw [show Pol.need 6 1 2=6 by kernel_rfl,show Pol.er 6 1 2=0 by kernel_rfl] at this
   exact this⟩
noncomputable def A1L:QG:=A8Q T1 A1M
theorem zD:N8 prog A1L:=A8D T1_ok zF
noncomputable def isV (x:Option (Value × AH)) (l:L_):Bool:=match x with
|some (.tuple us,_)=>vsQ us.toList l
|_=>false
theorem A8O {x:Option (Value × AH)} {l:L_} (h:isV x l=true):∃ h1,x=some (.tuple l.toArray,h1):=by
 unfold isV at h;split at h
 ·rename_i us h1;exact ⟨h1,by rw [show us=l.toArray from Array.ext' (by rw [y5 h])]⟩
 ·cases h
noncomputable def T2:List Ent:=[(156,[.agg (vs .i64 (spread 1 1 1)).toArray,.int .i64 (.ofNat 15)],.tuple [.agg (vs .u8 P9).toArray,.int .i64 (.ofNat 0)].toArray)]
theorem UF:isV ((ai prog A1L 3000).call 156 [.agg (vs .i64 (spread 1 1 1)).toArray,.int .i64 (.ofNat 15)] ⟨.nil,0⟩) [.agg (vs .u8 P9).toArray,.int .i64 (.ofNat 0)]=true:=by kernel_rfl
theorem T2_ok:∀ x ∈ T2,Gives prog x:=by
 intro x hx;simp only [T2,List.mem_cons,List.not_mem_nil,or_false] at hx;subst hx;obtain ⟨h2,q⟩:=A8O UF;exact A8N (Qx zD 3000) q (by simp [Nq,BM,Hq]) (by simp [Nr,Nq,BM,Hq])
noncomputable def qX:QG:=A8Q T2 A1L
theorem Wy:N8 prog qX:=A8D T2_ok zD
noncomputable def isTrue (x:Option (Value × AH)):Bool:=match x with
|some (.bool b,_)=>b
|_=>false
theorem YZ {x:Option (Value × AH)} (h:isTrue x=true):∃ h1,x=some (.bool true,h1):=by
 unfold isTrue at h;split at h
 ·rename_i b h1;subst h;exact ⟨h1,rfl⟩
 ·cases h
open Go Go.RowKit
section
variable {P:Program} {e:En} {h:AH} {w0:Base} {w:World}
noncomputable def A0L (a b:AO):Bool:=match a,b with
|.row x n,.row y m=>cond (Nat.beq n m) (Ky x y) false
|.ro x,.ro y=>Ky x y
|_,_=>false
theorem jW {a b:AO} (h:A0L a b=true):a=b:=by
 unfold A0L at h;split at h
 ·rename_i x n y m;cases hn:Nat.beq n m with
 |false=>rw [hn] at h;cases h
 |true =>
   rw [hn] at h;rw [n_q hn,Gw h]
 ·rw [Gw h]
 ·cases h
noncomputable def hasAll (h:AH):List (Nat × AO)->Bool
|[]=>true
|(k,o)::l=>(match h.t.get k with|some o'=>A0L o' o|none=>false) && (Nat.ble k 16000000 && hasAll h l)
noncomputable def layAll (t:Tr AO):List (Nat × AO)->Tr AO
|[]=>t
|(k,o)::l=>(layAll t l).put k (some o)
noncomputable def I4 (t:Tr AO):List (Nat × AO)->Tr AO
|[]=>t
|(k,_)::l=>(I4 t l).put k none
theorem Ip:∀ {l:List (Nat × AO)},hasAll h l=true->∀ k o,(k,o) ∈ l->h.t.get k=some o/\k < BIG
|[],_,k,o,hm=>by cases hm
|(j,p)::l,hx,k,o,hm=>by
  unfold hasAll at hx;simp only [b_t] at hx;obtain ⟨h1,h2,h3⟩:=hx;rcases List.mem_cons.1 hm with hm|hm
  ·cases hm;split at h1
   ·rename_i o' ho;rw [ho,jW h1];have:=n_l h2;exact ⟨rfl,by show j < 16777216;omega⟩
   ·cases h1
  ·exact Ip h3 k o hm
theorem Fb (t:Tr AO):∀ {l:List (Nat × AO)},(∀ k o,(k,o) ∈ l->k < BIG)->∀ k o,k < BIG->(layAll t l).get k=some o->(k,o) ∈ l\/((∀ o',(k,o') ∉ l)/\t.get k=some o)
|[],_,k,o,_,h=>.inr ⟨fun o' h=>(by cases h),h⟩
|(j,p)::l,hb,k,o,hk,h=>by
  unfold layAll at h;rw [Tr.get_put _ _ (hb j p (by simp)) hk] at h;split at h
  ·rename_i hkj;cases h;subst hkj;exact .inl (by simp)
  ·rename_i hkj;rcases Fb t (fun k o hm=>hb k o (List.mem_cons_of_mem _ hm)) k o hk h with h1|⟨h1,h2⟩
   ·exact .inl (List.mem_cons_of_mem _ h1)
   ·refine .inr ⟨fun o' hm=>?_,h2⟩;exact xev
theorem KX (t:Tr AO):∀ {l:List (Nat × AO)},(∀ k o,(k,o) ∈ l->k < BIG)->∀ k o,k < BIG->(I4 t l).get k=some o->(∀ o',(k,o') ∉ l)/\t.get k=some o
|[],_,k,o,_,h=>⟨fun o' h=>(by cases h),h⟩
|(j,p)::l,hb,k,o,hk,h=>by
  unfold I4 at h;rw [Tr.get_put _ _ (hb j p (by simp)) hk] at h;split at h
  ·cases h
  ·rename_i hkj;obtain ⟨h1,h2⟩:=KX t (fun k o hm=>hb k o (List.mem_cons_of_mem _ hm)) k o hk h;refine ⟨fun o' hm=>?_,h2⟩;exact xev
theorem HX.part {h':AH} (hr:HX e h w0 w) (hn:h'.n=h.n) (ht:∀ k o,k < BIG->h'.t.get k=some o->h.t.get k=some o):HX e h' w0 w :=
 ⟨hr.below,by rw [hn];exact hr.small,fun k x hk=>by rw [hn];exact hr.dom k x hk,fun k o hk ho=>hr.live k o hk (ht k o hk ho),fun k k' o o' g c c' hk hk' ho ho'=>hr.inj k k' o o' g c c' hk hk' (ht k o hk ho) (ht k' o' hk' ho')⟩
theorem QS (k:Nat):(.nil:Tr AO).get k=none:=Tr.get_nil k
theorem Vp {D:AI} (hD:∀ w0,Kt P D w0) {f:FuncId} {args:L_} {Hs K:List (Nat × AO)} {N:Nat} {v:Value} {h1:AH} (hx:D.call f args ⟨layAll .nil Hs,N⟩=some (v,h1)) (hH:hasAll h Hs=true) (hN:h.n=N) (hK:hasAll h1 K=true)
  {args':L_} (hargs:VRs e args args') (hr:HX e h w0 w) :
  Calls P f args'.toArray w fun x w'=>∃ u e',x=.returned u/\e.le e'/\VR e' v u/\HX e' ⟨layAll (I4 h.t Hs) K,h1.n⟩ w0 w':=by
 have hHm:=Ip hH;have hKm:=Ip hK;have hHB:∀ k o,(k,o) ∈ Hs->k < BIG:=fun k o hm=>(hHm k o hm).2;have hKB:∀ k o,(k,o) ∈ K->k < BIG:=fun k o hm=>(hKm k o hm).2
 have hsub:∀ k o,k < BIG->(layAll .nil Hs).get k=some o->h.t.get k=some o/\(k,o) ∈ Hs:=fun k o hk ho=>by
  rcases Fb .nil hHB k o hk ho with h1|⟨_,h2⟩
  ·exact ⟨(hHm k o h1).1,h1⟩
  ·rw [QS] at h2;cases h2
 have hs:HX e ⟨layAll .nil Hs,N⟩ w0 w:=hr.part hN.symm fun k o hk ho=>(hsub k o hk ho).1
 let F:Nat->Prop:=fun g=>∃ k o c,k < BIG/\(∀ o',(k,o') ∉ Hs)/\h.t.get k=some o/\e k=some (g,c)
 have hF:∀ g,F g->g < w.heap.size:=fun g ⟨k,o,c,hk,_,ho,hke⟩=>(hr.at hke ho).2.lt
 have hG:=hs.guard (F:=F) hF (fun k o g c hk ho hke ⟨k2,o2,c2,hk2,hn2,ho2,hke2⟩=>by
  obtain ⟨q1,q2⟩:=hsub k o hk ho;have:=hr.inj k k2 o o2 g c c2 hk hk2 q1 ho2 hke hke2;subst this
  exact hn2 o q2)
 refine ((hD _).call.ok f args ⟨layAll .nil Hs,N⟩ v h1 hx e w args' hargs hG).mono ?_;rintro x w' ⟨u,e1,rfl,z1,z2,z3⟩;obtain ⟨y1,y2⟩:=hs.NR z3
 have hget:∀ k o,k < BIG->(layAll (I4 h.t Hs) K).get k=some o->h1.t.get k=some o\/((∀ o',(k,o') ∉ Hs)/\h.t.get k=some o):=fun k o hk ho=>by
  rcases Fb _ hKB k o hk ho with q|⟨_,q⟩
  ·exact .inl (hKm k o q).1
  ·exact .inr (KX h.t hHB k o hk q)
 have hrest:∀ k o,k < BIG->(∀ o',(k,o') ∉ Hs)->h.t.get k=some o->∃ g c,e k=some (g,c)/\¬ w0.K g/\OR e w g c o/\F g:=fun k o hk hn ho=>by
  obtain ⟨g,c,q1,q2,q3⟩:=hr.live k o hk ho;exact ⟨g,c,q1,q2,q3,k,o,c,hk,hn,ho,q1⟩
 have hfar:∀ k o g c,k < BIG->h1.t.get k=some o->e1 k=some (g,c)->¬ F g:=fun k o g c hk ho hke hFg=>by
  obtain ⟨g',c',q1,q2,_⟩:=z3.live k o hk ho;rw [hke] at q1;cases q1;exact q2 (.inr hFg)
 refine ⟨u,e1,rfl,z1,z2,⟨y1.below,y1.small,y1.dom,fun k o hk ho=>?_,fun k k' o o' g c c' hk hk' ho ho' a1 a2=>?_⟩⟩
 ·rcases hget k o hk ho with q|⟨q1,q2⟩
  ·exact y1.live k o hk q
  ·obtain ⟨g,c,p1,p2,p3,p4⟩:=hrest k o hk q1 q2;exact ⟨g,c,z1 _ _ p1,p2,(p3.block (y2 g p4)).mono z1⟩
 ·rcases hget k o hk ho with q|⟨q1,q2⟩
  ·rcases hget k' o' hk' ho' with r|⟨r1,r2⟩
   ·exact y1.inj k k' o o' g c c' hk hk' q r a1 a2
   ·obtain ⟨g2,c2,p1,_,_,p4⟩:=hrest k' o' hk' r1 r2;have:=z1 _ _ p1;rw [a2] at this;cases this;exact absurd p4 (hfar k o g c hk q a1)
  ·obtain ⟨g1,c1,p1,_,_,p4⟩:=hrest k o hk q1 q2;have e1k:=z1 _ _ p1;rw [a1] at e1k;cases e1k;rcases hget k' o' hk' ho' with r|⟨r1,r2⟩
   ·exact absurd p4 (hfar k' o' g c' hk' r a2)
   ·obtain ⟨g2,c2,p1',_,_,_⟩:=hrest k' o' hk' r1 r2;have:=z1 _ _ p1';rw [a2] at this;cases this;exact hr.inj k k' o o' g c c' hk hk' q2 r2 p1 p1'
end
variable {h h':AH} {w0:Base} {e:En} {Hs K:List (Nat × AO)} {A args args':L_} {N n:Nat} {P:Program} {w:World}
noncomputable def Lj (x:Option (Value × AH)) (v:L_) (n:Nat) (K:List (Nat × AO)):Bool:=match x with
|some (.tuple vs,h1)=>cond (Ky vs.toList v) (cond (Nat.beq h1.n n) (hasAll h1 K) false) false
|_=>false
theorem O7 {x:Option (Value × AH)} {v:L_} (h:Lj x v n K=true):∃ h1,x=some (.tuple v.toArray,h1)/\h1.n=n/\hasAll h1 K=true:=by
 unfold Lj at h;split at h
 ·rename_i vs h1;cases hv:Ky vs.toList v with
 |false=>rw [hv] at h;cases h
 |true =>
   rw [hv] at h;cases hn:Nat.beq h1.n n with
  |false=>rw [hn] at h;cases h
  |true =>
    rw [hn] at h;exact ⟨h1,by rw [show vs=v.toArray from Array.ext' (by rw [Gw hv])],n_q hn,h⟩
 ·cases h
noncomputable def SE (A:L_) (Hs:List (Nat × AO)) (N:Nat) (v:L_) (n:Nat) (K:List (Nat × AO)) (args:L_) (h:AH):Option (Option (Value × AH)) :=
 cond (Ky args A) (cond (Nat.beq h.n N) (cond (hasAll h Hs) (some (some (.tuple v.toArray,⟨layAll (I4 h.t Hs) K,n⟩))) none) none) none
theorem YH {D:AI} (hD:∀ w0,Kt P D w0) {f:FuncId} {vs:L_} (hchk:Lj (D.call f A ⟨layAll .nil Hs,N⟩) vs n K=true)
  {v:Value} (hx:SE A Hs N vs n K args h=some (some (v,h'))) (hv:VRs e args args') (hr:HX e h w0 w) :
  Calls P f args'.toArray w fun x w'=>∃ u e',x=.returned u/\e.le e'/\VR e' v u/\HX e' h' w0 w':=by
 unfold SE at hx;cases h1:Ky args A with
|false=>rw [h1] at hx;cases hx
|true =>
  rw [h1] at hx;have:=Gw h1;subst this;cases h2:Nat.beq h.n N with
 |false=>rw [h2] at hx;cases hx
 |true =>
   rw [h2] at hx;cases h3:hasAll h Hs with
  |false=>rw [h3] at hx;cases hx
  |true =>
    rw [h3] at hx;cases hx;obtain ⟨g1,q1,q2,q3⟩:=O7 hchk;have:=Vp hD q1 h3 (n_q h2) q3 hv hr;rw [q2] at this;exact this
def A16:L_:=[.int .i64 (.ofNat 6),.int .i64 (.ofNat 6),.slice (some ⟨1,0,none⟩) 1 1,.int .i64 (.ofNat 4)]
def H16:List (Nat × AO):=[(0,.ro OA),(1,.row [.slice (some ⟨0,0,none⟩) 6 6] 0)]
def V16:L_:=[.slice (some ⟨2973,0,none⟩) 55 NOM,.bool true]
def K16:List (Nat × AO):=[(2973,.row Jc 1)]
theorem uX:Lj ((ai prog qX 100000).call 16 A16 ⟨layAll .nil H16,2⟩) V16 2974 K16=true:=by kernel_rfl
noncomputable def zC:QG:=fun D f args h=>cond (Nat.beq f 16) (SE A16 H16 2 V16 2974 K16 args h) (qX D f args h)
theorem iw:N8 prog zC:=by
 intro D hD f args h v h' hx w0 e w args' hv hr;unfold zC at hx;cases h1:Nat.beq f 16 with
|true=>rw [h1] at hx;obtain rfl:=n_q h1;exact YH (Qx Wy 100000) uX hx hv hr
|false=>rw [h1] at hx;exact Wy D hD f args h v h' hx w0 e w args' hv hr
theorem mX:isTrue ((ai prog zC 100000).call 9 [] ⟨.nil,0⟩)=true:=by kernel_rfl
theorem O9 (w:World):Calls prog 9 #[] w (RB w (.bool true)):=by
 obtain ⟨h1,q⟩:=YZ mX;exact A0O iw q w
end Go.Proofs.YtkpbhdhkdonghaaGreat
