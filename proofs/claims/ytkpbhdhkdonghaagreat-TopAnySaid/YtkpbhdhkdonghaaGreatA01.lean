/-
  Part 1 of the proof.
-/
import Derived.WalkSpells
import Derived.StillTail
set_option linter.all false
namespace Go.Proofs.YtkpbhdhkdonghaaGreat
open Go Go.RowKit
abbrev A_:=Array Value
abbrev L_:=List Value
abbrev I_:=List Int
abbrev N_:=List Nat
abbrev P_:=Act -> World -> Prop
abbrev O_:=Array Oper
abbrev Q_:=List Oper
abbrev n_q:=@Nat.eq_of_beq_eq_true
abbrev n_l:=@Nat.le_of_ble_eq_true
abbrev r_o:=@Result.andThen_ok
abbrev b_t:=@Bool.and_eq_true
abbrev s_b:=@Sem.run_bind
abbrev b_r:=@bodyPost_ret
abbrev l_a:=@List.append_assoc
abbrev l_g:=@List.getElem?_eq_some_iff
abbrev a_g:=@Array.getElem?_toList
abbrev r_u:=@run_underlying
abbrev s_p:=@Sem.run_pure
abbrev l_e:=@List.getElem?_eq_getElem
abbrev l_t:=@List.all_eq_true
abbrev l_r:=@List.length_replicate
abbrev l_m:=@List.mem_of_getElem?
abbrev a_e:=@Array.getElem?_eq_some_iff
abbrev l_y:=@List.map_toArray
theorem s2 {α:Type}:(∀ (a:α) (l m:List α),a::l++m=a::(l++m))/\(∀ l:List α,[]++l=l):=⟨fun _ _ _=>rfl,fun _=>rfl⟩
theorem s3 {α:Type}:(∀ (l:List α) (i:Nat) (a:α),l.toArray.setIfInBounds i a=(l.set i a).toArray)/\(∀ (x a:α) (l:List α),(x::l).set 0 a=a::l)/\(∀ (x a:α) (n:Nat) (l:List α),(x::l).set (n+1) a=x::l.set n a):=⟨by simp,by simp,by simp⟩
theorem h_ {p:Prop} (h:p):Hid p:=h
theorem i_6 {n:Int} (h:-9223372036854775808<=n/\n<=9223372036854775807:=by omega):IntKind.i64.wrap n=n:=IntWalk.i64_in n h
theorem d_f {p:Prop} [Decidable p] (h:¬p:=by omega):decide p=false:=decide_eq_false h
theorem d_t {p:Prop} [Decidable p] (h:p:=by omega):decide p=true:=decide_eq_true h
theorem c_z {p q:Prop} (h:p) (e:p=q:=by with_unfolding_all rfl):q:=e ▸ h
abbrev Rws:=List (Nat × A_)
variable {cs cs2 ns tmps:A_} {b:Bool} {k:IntKind} {l m:I_} {c cap dCap dLen g gs len n off off' os sCap sLen:Nat} {x y:Operand} {ad:Option Addr} {hi lo:Option Operand} {e elem s t t' ty:TypeId} {i:TypeInfo} {w':World}
def AA (w:World) (g:Nat) (cs:A_):Prop:=∃ t,w.heap[g]?=some (.cells cs t (0,0))
theorem AA.lt {w:World} (h:AA w g cs):g < w.heap.size:=by
 obtain ⟨t,h⟩:=h;exact (Array.getElem?_eq_some_iff.1 h).1
theorem AA.cell {w:World} {g:Nat} {cs:A_} (h:AA w g cs) (i:Nat):w.cell? ⟨g,i,none⟩=cs[i]?:=by
 obtain ⟨t,h⟩:=h;exact cell_of_row w g i cs t (0,0) h
theorem AA.free {w:World} (h:AA w g cs) (i:Nat):w.frozen? ⟨g,i,none⟩=false:=by
 obtain ⟨t,h⟩:=h;exact frozen_of_row w g i cs t h
theorem AA.new (w:World) (cs:A_) (t:TypeId):AA (w.alloc (.cells cs t)) w.heap.size cs:=⟨t,heap_alloc_new w _⟩
theorem AA.of_block {w:World} (h:AA w g cs) (e:w'.heap[g]?=w.heap[g]?):AA w' g cs:=by
 obtain ⟨t,h⟩:=h;exact ⟨t,e.trans h⟩
theorem AA.setRow {w:World} {g:Nat} {cs:A_} (h:AA w g cs) (vs:A_):AA (w.setRow g vs) g vs:=by
 obtain ⟨t,h⟩:=h;exact ⟨t,setRow_heap w g cs vs t _ h⟩
theorem AA.setCell {w:World} {g:Nat} {cs:A_} (h:AA w g cs) (i:Nat) (v:Value):AA (w.setCell ⟨g,i,none⟩ v) g (cs.setIfInBounds i v):=by
 obtain ⟨t,h⟩:=h;exact ⟨t,heap_setCell_same w g i cs t v h⟩
structure Mem (w0 w:World) (rs:Rws):Prop where
 below:Below w0.heap.size w0 w
 own:∀ p ∈ rs,w0.heap.size<=p.1
 rows:∀ p ∈ rs,AA w p.1 p.2
 apart:(rs.map (·.1)).Nodup
theorem Mem.nil (w:World):Mem w w []:=⟨Below.refl _ _,by simp,by simp,by simp⟩
theorem Mem.get {w0 w:World} {rs:Rws} (h:Mem w0 w rs) (i:Nat) (hi:rs[i]?=some (g,cs)):AA w g cs :=
 h.rows (g,cs) (l_m hi)
theorem Mem.alloc {w0 w:World} {rs:Rws} (h:Mem w0 w rs) (cs:A_) (t:TypeId):Mem w0 (w.alloc (.cells cs t)) ((w.heap.size,cs)::rs):=by
 refine ⟨h.below.alloc h.below.size _,?_,?_,?_⟩
 ·intro p hp;rcases List.mem_cons.1 hp with rfl|hp
  ·exact h.below.size
  ·exact h.own p hp
 ·intro p hp;rcases List.mem_cons.1 hp with rfl|hp
  ·exact AA.new w cs t
  ·exact (h.rows p hp).of_block (Below.heap_alloc w _ _ (h.rows p hp).lt)
 ·simp only [List.map_cons,List.nodup_cons];refine ⟨?_,h.apart⟩;intro hm;obtain ⟨p,hp,e⟩:=List.mem_map.1 hm;have:=(h.rows p hp).lt;omega
theorem Mem.PV {w0 w:World} {rs:Rws} (h:Mem w0 w rs) (o:Obj):Mem w0 (w.alloc o) rs :=
 ⟨h.below.alloc h.below.size _,h.own,fun p hp=>(h.rows p hp).of_block (Below.heap_alloc w _ _ (h.rows p hp).lt),h.apart⟩
theorem Mem.drawn {w0 w:World} {rs:Rws} (h:Mem w0 w rs) (n:Nat):Mem w0 { w with drawn:=n } rs :=
 ⟨⟨h.below.os,h.below.tape,h.below.output,h.below.size,h.below.block⟩,h.own,fun p hp=>(h.rows p hp).of_block rfl,h.apart⟩
theorem Mem.call {w0 w:World} {rs:Rws} (h:Mem w0 w rs) (hb:Below w.heap.size w w'):Mem w0 w' rs :=
 ⟨h.below.trans (hb.mono h.below.size),h.own,fun p hp=>(h.rows p hp).of_block (hb.block _ (h.rows p hp).lt),h.apart⟩
theorem Mem.grown {w0 w w':World} {rs:Rws} (h:Mem w0 w rs) {row:Option Nat} (hg:w.grownBy w' row) (hr:∀ k,row=some k->w0.heap.size<=k) (hn:∀ k,row=some k->k ∉ rs.map (·.1)):Mem w0 w' rs :=
 ⟨h.below.grown hg h.below.size hr,h.own,fun p hp=>(h.rows p hp).of_block (hg.block _ (h.rows p hp).lt (fun e=>hn _ e.symm (List.mem_map.2 ⟨p,hp,rfl⟩))),h.apart⟩
theorem KI {α β:Type}:∀ (rs:List (α × β)) (i:Nat) (g:α) (c c':β),rs[i]?=some (g,c)->(rs.set i (g,c')).map (·.1)=rs.map (·.1)
|[],_,_,_,_,h=>by simp at h
|r::rs,0,g,c,c',h=>by simp at h;subst h;simp
|r::rs,i+1,g,c,c',h=>by simp at h;simp [KI rs i g c c' h]
theorem Gl {α:Type}:∀ (l:List α) (i:Nat) (x y:α),y ∈ l.set i x->y=x\/∃ j,j ≠ i/\l[j]?=some y
|[],_,_,_,h=>by simp at h
|a::l,0,x,y,h=>by
  simp at h;rcases h with rfl|h
  ·exact .inl rfl
  ·obtain ⟨j,hj,e⟩:=List.getElem_of_mem h;exact .inr ⟨j+1,by omega,by simp [l_e hj,e]⟩
|a::l,i+1,x,y,h=>by
  simp at h;rcases h with rfl|h
  ·exact .inr ⟨0,by omega,by simp⟩
  ·rcases Gl l i x y h with h|⟨j,hj,e⟩
   ·exact .inl h
   ·exact .inr ⟨j+1,by omega,by simpa using e⟩
theorem X8 {α β:Type} (rs:List (α × β)) (hn:(rs.map (·.1)).Nodup) (i j:Nat) (p q:α × β) (hi:rs[i]?=some p) (hj:rs[j]?=some q) (hij:j ≠ i):q.1 ≠ p.1:=by
 intro e;have h1:(rs.map (·.1))[i]?=some p.1:=by simp [hi]
 have h2:(rs.map (·.1))[j]?=some p.1:=by simp [hj,e]
 obtain ⟨a1,a2⟩:=List.getElem?_eq_some_iff.1 h1;obtain ⟨b1,b2⟩:=List.getElem?_eq_some_iff.1 h2;have hp:=List.pairwise_iff_getElem.1 hn;rcases Nat.lt_or_gt_of_ne hij with hlt|hlt
 ·exact hp j i b1 a1 hlt (b2.trans a2.symm)
 ·exact hp i j a1 b1 hlt (a2.trans b2.symm)
theorem Mem.put {w0 w:World} {rs:Rws} (h:Mem w0 w rs) (i:Nat) {vs:A_} (hi:rs[i]?=some (g,cs)) (hr:AA w' g vs) (hg:w.grownBy w' (some g)):Mem w0 w' (rs.set i (g,vs)):=by
 have hm:(g,cs) ∈ rs:=l_m hi;refine ⟨h.below.grown hg h.below.size (fun k e=>by cases e;exact h.own _ hm),?_,?_,?_⟩
 ·intro p hp;rcases Gl _ _ _ _ hp with e|⟨j,hj,e⟩
  ·rw [e];show w0.heap.size<=g;exact h.own (g,cs) hm
  ·exact h.own _ (l_m e)
 ·intro p hp;rcases Gl _ _ _ _ hp with rfl|⟨j,hj,e⟩
  ·exact hr
  ·have hpm:=l_m e;have hne:p.1 ≠ g:=X8 rs h.apart i j _ _ hi e hj;exact (h.rows p hpm).of_block (hg.block _ (h.rows p hpm).lt (fun e=>hne (by cases e;rfl)))
 ·rw [KI rs i g cs vs hi];exact h.apart
theorem EC (w:World) (g:Nat) (cs:A_):w.grownBy (w.setRow g cs) (some g) :=
 ⟨rfl,rfl,rfl,by simp,fun k _ hk=>setRow_other w g k cs (fun e=>hk (by rw [e]))⟩
theorem grownBy_setCell (w:World) (g i:Nat) (v:Value):w.grownBy (w.setCell ⟨g,i,none⟩ v) (some g) :=
 ⟨rfl,rfl,rfl,by simp [World.setCell],fun k _ hk=>heap_setCell_other w _ k v (fun e=>hk (by rw [e]))⟩
theorem Mem.setRow {w0 w:World} {rs:Rws} (h:Mem w0 w rs) (i:Nat) {g:Nat} {cs:A_} (vs:A_) (hi:rs[i]?=some (g,cs)):Mem w0 (w.setRow g vs) (rs.set i (g,vs)) :=
 h.put i hi ((h.get i hi).setRow vs) (EC w g vs)
theorem Mem.setCell {w0 w:World} {rs:Rws} (h:Mem w0 w rs) (i:Nat) {g:Nat} {cs:A_} (k:Nat) (v:Value) (hi:rs[i]?=some (g,cs)):Mem w0 (w.setCell ⟨g,k,none⟩ v) (rs.set i (g,cs.setIfInBounds k v)) :=
 h.put i hi ((h.get i hi).setCell k v) (grownBy_setCell w g k v)
structure Aq (P:Program) (ty:TypeId) (n:Nat):Prop where
 agg:∀ w,(isAgg ty).run P w=.ok true w
 size:(P.info? ty).map (·.size)=some n
theorem Aq.mk' {P:Program} {d:TypeDesc} (hu:P.underlying ty=some d) (hd:(match d with|.struct _|.array _ _=>true|_=>false)=true) (hs:(P.info? ty).map (·.size)=some n):Aq P ty n:=by
 refine ⟨fun w=>?_,hs⟩;unfold isAgg;rw [s_b,r_u hu w];cases d<;>simp_all
def splice (cs:A_) (off:Nat) (vs:A_):A_:=(cs.toList.take off++vs.toList++cs.toList.drop (off+vs.size)).toArray
theorem GI (cs vs:A_) (h:vs.size=cs.size):splice cs 0 vs=vs:=by
 have:cs.toList.drop vs.size=[]:=List.drop_of_length_le (by simp;omega);simp [splice,this]
variable {P:Program}
theorem Jd {w:World} (hr:AA w g cs) (ht:Aq P ty n) (hf:off+n<=cs.size) :
  (loadVar ty ⟨g,off,none⟩).run P w=.ok (.agg (cs.extract off (off+n))) w:=by
 have hlen:(cs.extract off (off+n)).toList.length=n:=by simp;omega
 have hl:(loadCells ⟨g,off,none⟩ (cs.extract off (off+n)).toList.length).run P w=.ok (cs.extract off (off+n)).toList.toArray w :=
  run_loadCells_list (P:=P) w ⟨g,off,none⟩ (cs.extract off (off+n)).toList (fun j v hv=>by
   rw [Addr.add_lit,hr.cell (off+j)];simp only [a_g,Array.getElem?_extract] at hv;split at hv
   ·exact hv
   ·cases hv)
 rw [hlen] at hl;cases hq:P.info? ty with
|none=>have:=ht.size;simp [hq] at this
|some i =>
  have hs:i.size=n:=by have:=ht.size;simpa [hq] using this
  simp only [Array.toArray_toList] at hl;simp [loadVar,s_b,ht.agg,sizeOf,typeInfo,hq,hs,hl]
theorem NT {w:World} {vs:A_} (hr:AA w g cs) (ht:Aq P ty n) (hv:vs.size=n) (hf:off+n<=cs.size) (h1:∀ v ∈ vs,v.oneCell'=true) :
  (storeVar ty ⟨g,off,none⟩ (.agg vs)).run P w=.ok () (w.setRow g (splice cs off vs)):=by
 obtain ⟨t,hr⟩:=hr;have hst:=run_storeCells_at P g off t vs.toList 0 cs w hr (by simp;omega) (fun v hv=>h1 v (by simpa using hv));simp only [Nat.add_zero,Array.length_toList] at hst;cases hq:P.info? ty with
|none=>have:=ht.size;simp [hq] at this
|some i =>
  have hs:i.size=n:=by have:=ht.size;simpa [hq] using this
  simp [storeVar,sizeOf,typeInfo,hq,Value.cells,hs,hv,hst,splice]
theorem A8 {ops:O_} {rest:Q_} {o:Oper} {a:Act} {w:World} {Q:Exit->P_} {v:Value} (hg:Region.wanted o (yielded ops a.tmps)=true)
  (hrun:(execOp a.eval o).run P w=.ok (.value v) w') (h:wpList P ops Q rest (a.put o.dst v) w'):wpList P ops Q (o::rest) a w :=
 wpList_step fun _ hK=>by rw [if_pos hg];unfold Oper.wp;rw [hrun];exact hK _ _ h
theorem FN {ops:O_} {rest:Q_} {o:Oper} {a:Act} {w:World} {Q:Exit->P_} (hg:Region.wanted o (yielded ops a.tmps)=true)
  (hrun:(execOp a.eval o).run P w=.ok .skip w') (h:wpList P ops Q rest (a.put o.dst undef) w'):wpList P ops Q (o::rest) a w :=
 wpList_step fun _ hK=>by rw [if_pos hg];unfold Oper.wp;rw [hrun];exact hK _ _ h
theorem IQ {ops:O_} {rest:Q_} {o:Oper} {a:Act} {w:World} {Q:Act->Prop} {v:Value} (hg:Region.wanted o (yielded ops a.tmps)=true)
  (hrun:(execOp a.eval o).run P w=.ok (.value v) w) (h:wpStill P ops w Q rest (a.put o.dst v)):wpStill P ops w Q (o::rest) a:=by
 refine wpStill_step fun K hK=>?_;rw [if_pos hg];unfold Oper.still;rw [hrun];exact ⟨rfl,hK _ h⟩
theorem Gp {o:Oper} {a:Act} {w:World} (ho:o.op=.load ty x) (hx:a.eval x=.pointer (some ⟨g,off,none⟩)) 
  (hr:AA w g cs) (ht:Aq P ty n) (hf:off+n<=cs.size):(execOp a.eval o).run P w=.ok (.value (.agg (cs.extract off (off+n)))) w:=by
 unfold execOp;simp only [ho,hx,Instr.loadAt,Instr.sureAddr,s_b,s_p,r_o,Jd hr ht hf]
theorem Gn {o:Oper} {a:Act} {w:World} (ho:o.op=.store ty x y) (hx:a.eval x=.pointer (some ⟨g,off,none⟩)) {vs:A_} (hy:a.eval y=.agg vs) 
  (hr:AA w g cs) (ht:Aq P ty n) (hv:vs.size=n) (hf:off+n<=cs.size) (h1:∀ v ∈ vs,v.oneCell'=true):(execOp a.eval o).run P w=.ok .skip (w.setRow g (splice cs off vs)):=by
 unfold execOp;simp only [ho,hx,hy,Instr.storeAt,Instr.sureAddr,s_b,s_p,r_o,NT hr ht hv hf h1]
theorem Ec {w:World} (hr:AA w g cs) (ht:Aq P ty cs.size):(loadVar ty ⟨g,0,none⟩).run P w=.ok (.agg cs) w:=by
 have h:=Jd (P:=P) (off:=0) hr ht (by omega);simpa using h
theorem AQ {fn:Func} {p:Tmp} (h:fn.results=#[.cell p ty]) {w:World} 
  (hp:tmps.getD p undef=.pointer (some ⟨g,0,none⟩)) (hr:AA w g cs) (ht:Aq P ty cs.size):(results fn tmps).run P w=.ok (.agg cs) w:=by
 have hp':tmps[p]?.getD undef=.pointer (some ⟨g,0,none⟩):=by simpa using hp
 simp [results,h,hp',asAddr,Ec hr ht]
theorem Af {fn:Func} {p t:Tmp} (h:fn.results=#[.cell p ty,.tmp t]) {w:World} 
  (hp:tmps.getD p undef=.pointer (some ⟨g,0,none⟩)) (hr:AA w g cs) (ht:Aq P ty cs.size):(results fn tmps).run P w=.ok (.tuple #[.agg cs,tmps.getD t undef]) w:=by
 have hp':tmps[p]?.getD undef=.pointer (some ⟨g,0,none⟩):=by simpa using hp
 simp [results,h,hp',asAddr,Ec hr ht]
theorem Ae {fn:Func} {p t u:Tmp} (h:fn.results=#[.cell p ty,.tmp t,.tmp u]) {w:World} 
  (hp:tmps.getD p undef=.pointer (some ⟨g,0,none⟩)) (hr:AA w g cs) (ht:Aq P ty cs.size):(results fn tmps).run P w=.ok (.tuple #[.agg cs,tmps.getD t undef,tmps.getD u undef]) w:=by
 have hp':tmps[p]?.getD undef=.pointer (some ⟨g,0,none⟩):=by simpa using hp
 simp [results,h,hp',asAddr,Ec hr ht]
theorem EJ {fn:Func} {p t u v:Tmp} (h:fn.results=#[.cell p ty,.tmp t,.tmp u,.tmp v]) {w:World} 
  (hp:tmps.getD p undef=.pointer (some ⟨g,0,none⟩)) (hr:AA w g cs) (ht:Aq P ty cs.size):(results fn tmps).run P w=.ok (.tuple #[.agg cs,tmps.getD t undef,tmps.getD u undef,tmps.getD v undef]) w:=by
 have hp':tmps[p]?.getD undef=.pointer (some ⟨g,0,none⟩):=by simpa using hp
 simp [results,h,hp',asAddr,Ec hr ht]
def gi (l:I_) (i:Nat):Int:=l.getD i 0
def vs (k:IntKind) (l:I_):L_:=l.map (Value.int k)
def B (l:I_):A_:=(vs .u8 l).toArray
def I (l:I_):A_:=(vs .i64 l).toArray
theorem Ai (k:IntKind) (l:I_):(vs k l).length=l.length:=by simp [vs]
theorem Ih (l:I_):(B l).size=l.length:=by simp [B,vs]
theorem bC (l:I_):(I l).size=l.length:=by simp [I,vs]
theorem Ic (k:IntKind) (l:I_):∀ v ∈ vs k l,v.oneCell'=true:=by
 intro v hv;obtain ⟨n,_,rfl⟩:=List.mem_map.1 hv;rfl
theorem Ut (l:I_):∀ v ∈ B l,v.oneCell'=true:=by
 intro v hv;exact Ic .u8 l v (by simpa [B] using hv)
theorem I_one (l:I_):∀ v ∈ I l,v.oneCell'=true:=by
 intro v hv;exact Ic .i64 l v (by simpa [I] using hv)
theorem Fg (k:IntKind) (l:I_) (i:Nat) (h:i < l.length):(vs k l)[i]?=some (.int k (gi l i)):=by simp [vs,gi,h,List.getD]
theorem Zd (l:I_) (i:Nat) (h:i < l.length):(B l)[i]?=some (.int .u8 (gi l i)):=by simpa [B] using Fg .u8 l i h
theorem A1c (l:I_) (i:Nat) (x:Int):(B l).setIfInBounds i (.int .u8 x)=B (l.set i x):=by
 apply Array.ext';simp [B,vs,List.map_set]
theorem A1b (l:I_) (i:Nat) (x:Int):(I l).setIfInBounds i (.int .i64 x)=I (l.set i x):=by
 apply Array.ext';simp [I,vs,List.map_set]
theorem Je {w:World} (d:Nat) {e:TypeId} {k:IntKind} (he:P.underlying e=some (.int k)):∀ (is:N_) (l m:I_),(∀ i ∈ is,i < l.length/\i < m.length) ->
  (Op.eqItems (d+1) e 1 (vs k l).toArray (vs k m).toArray is).run P w=.ok (is.all fun i=>gi l i == gi m i) w
|[],_,_,_=>by simp [Op.eqItems]
|i::is,l,m,h=>by
  obtain ⟨h1,h2⟩:=h i (by simp);have ih:=Je (w:=w) d he is l m (fun j hj=>h j (by simp [hj]))
  have pl:(part e (vs k l).toArray (i * 1)).run P w=.ok (.int k (gi l i)) w:=by
   have:=Fg k l i h1;simp [part,isAgg,r_u he,this]
  have pm:(part e (vs k m).toArray (i * 1)).run P w=.ok (.int k (gi m i)) w:=by
   have:=Fg k m i h2;simp [part,isAgg,r_u he,this]
  simp only [Op.eqItems,s_b,pl,pm,run_equalIn_int w d e k k _ _ he,r_o,List.all_cons];cases hb:(gi l i == gi m i)
  ·simp
  ·simpa using ih
theorem Qw:∀ (l m:I_),l.length=m.length->((List.range l.length).all fun i=>gi l i == gi m i)=(l == m)
|[],[],_=>rfl
|x::xs,y::ys,h=>by
  have ih:=Qw xs ys (by simpa using h);rw [List.length_cons,List.range_succ_eq_map,List.all_cons,List.all_map];simp only [gi] at ih ⊢;simp only [List.getD_cons_zero,Function.comp_def,List.getD_cons_succ,ih];simp [List.cons_beq_cons]
|[],_::_,h=>by simp at h
|_::_,[],h=>by simp at h
theorem Gj {w:World} (d:Nat) (hu:P.underlying t=some (.array n e)) (he:P.underlying e=some (.int k)) (hi:P.info? e=some i) (hc:P.cellsOf e=1)
  (l m:I_) (hl:l.length=n) (hm:m.length=n):(Op.equalIn (d+2) t (.agg (vs k l).toArray) (.agg (vs k m).toArray)).run P w=.ok (l == m) w:=by
 rw [show d+2=(d+1)+1 from rfl,run_equalIn_array w (d+1) _ _ hu hi,hc,Je d he (List.range n) l m (fun j hj=>by have:=List.mem_range.1 hj;omega),<- Qw l m (by omega),hl]
theorem WM {w:World} (hu:P.underlying t=some (.array n e)) (he:P.underlying e=some (.int k)) (hi:P.info? e=some i) (hc:P.cellsOf e=1)
  (l m:I_) (hl:l.length=n) (hm:m.length=n):(binOp .eql t (.agg (vs k l).toArray) (.agg (vs k m).toArray)).run P w=.ok (.bool (l == m)) w:=by
 rw [run_eql_struct,Gj 9998 hu he hi hc l m hl hm];rfl
section steps
variable {ops:O_} {rest:Q_} {o:Oper} {a:Act} {w0 w:World} {Q:Exit->P_} {rs:Rws}
theorem Ho (hm:Mem w0 w rs) (hgd:Region.wanted o (yielded ops a.tmps)=true) (ho:o.op=.box ty x) (hx:a.eval x=.agg cs)
  (h:∀ w' g,Mem w0 w' ((g,cs)::rs)->wpList P ops Q rest (a.put o.dst (.pointer (some ⟨g,0,none⟩))) w'):wpList P ops Q (o::rest) a w:=by
 have hrun:(execOp a.eval o).run P w=.ok (.value (.pointer (some ⟨w.heap.size,0,none⟩))) (w.alloc (.cells cs ty)):=by
  unfold execOp;simp only [ho,hx,Instr.box,newVar,newRow,Value.cells,s_b,s_p];rfl
 exact A8 hgd hrun (h _ _ (hm.alloc cs ty))
theorem DF (hm:Mem w0 w rs) (hgd:Region.wanted o (yielded ops a.tmps)=true) (ho:o.op=.alloc ty) (hz:∀ w,(zeroValue ty).run P w=.ok (.agg cs) w)
  (h:∀ w' g,Mem w0 w' ((g,cs)::rs)->wpList P ops Q rest (a.put o.dst (.pointer (some ⟨g,0,none⟩))) w'):wpList P ops Q (o::rest) a w:=by
 have hrun:(execOp a.eval o).run P w=.ok (.value (.pointer (some ⟨w.heap.size,0,none⟩))) (w.alloc (.cells cs ty)):=by
  unfold execOp;simp only [ho,Instr.alloc,newVar,newRow,Value.cells,s_b,s_p,hz,r_o];rfl
 exact A8 hgd hrun (h _ _ (hm.alloc cs ty))
theorem Ag (hgd:Region.wanted o (yielded ops a.tmps)=true) (ho:o.op=.load ty x) (hx:a.eval x=.pointer (some ⟨g,0,none⟩)) 
  (hr:AA w g cs) (ht:Aq P ty cs.size) (h:wpList P ops Q rest (a.put o.dst (.agg cs)) w):wpList P ops Q (o::rest) a w:=by
 have hrun:=Gp (P:=P) (off:=0) ho hx hr ht (by omega);rw [show cs.extract 0 (0+cs.size)=cs by simp] at hrun;exact A8 hgd hrun h
theorem P5 {Q:Act->Prop} (hgd:Region.wanted o (yielded ops a.tmps)=true) (ho:o.op=.load ty x) (hx:a.eval x=.pointer (some ⟨g,0,none⟩)) 
  (hr:AA w g cs) (ht:Aq P ty cs.size) (h:wpStill P ops w Q rest (a.put o.dst (.agg cs))):wpStill P ops w Q (o::rest) a:=by
 have hrun:=Gp (P:=P) (off:=0) ho hx hr ht (by omega);rw [show cs.extract 0 (0+cs.size)=cs by simp] at hrun;exact IQ hgd hrun h
theorem Bd (hgd:Region.wanted o (yielded ops a.tmps)=true) (ho:o.op=.load ty x) (hx:a.eval x=.pointer (some ⟨g,off,none⟩)) {vs:A_}
  (hr:AA w g cs) (ht:Aq P ty vs.size) (hv:cs.extract off (off+vs.size)=vs) (hf:off+vs.size<=cs.size) (h:wpList P ops Q rest (a.put o.dst (.agg vs)) w):wpList P ops Q (o::rest) a w:=by
 have hrun:=Gp (P:=P) (off:=off) ho hx hr ht hf;rw [hv] at hrun;exact A8 hgd hrun h
theorem DC (i:Nat) (hm:Mem w0 w rs) (hgd:Region.wanted o (yielded ops a.tmps)=true) (ho:o.op=.store ty x y) (hx:a.eval x=.pointer (some ⟨g,0,none⟩)) {vs:A_} (hy:a.eval y=.agg vs)
  (hi:rs[i]?=some (g,cs)) (ht:Aq P ty vs.size) (hs:vs.size=cs.size) (h1:∀ v ∈ vs,v.oneCell'=true)
  (h:∀ w',Mem w0 w' (rs.set i (g,vs))->wpList P ops Q rest (a.put o.dst undef) w'):wpList P ops Q (o::rest) a w:=by
 have hrun:=Gn (P:=P) (off:=0) ho hx hy (hm.get i hi) ht rfl (by omega) h1;rw [GI cs vs hs] at hrun;exact FN hgd hrun (h _ (hm.setRow i vs hi))
def ET (P:Program) (ty:TypeId):Prop:=(∀ w,(isAgg ty).run P w=.ok false w)/\(P.info? ty).map (·.size)=some 1
theorem MJ (ho:o.op=.load ty x) (hx:a.eval x=.pointer (some ⟨g,off,none⟩)) {v:Value}
  (ht:ET P ty) (hc:w.cell? ⟨g,off,none⟩=some v):(execOp a.eval o).run P w=.ok (.value v) w:=by
 unfold execOp;simp only [ho,hx,Instr.loadAt,Instr.sureAddr,s_b,s_p,r_o,loadVar,ht.1,Bool.false_eq_true,if_false,run_load,hc]
theorem OZ {Q:Act->Prop} (hgd:Region.wanted o (yielded ops a.tmps)=true) (ho:o.op=.load ty x) (hx:a.eval x=.pointer (some ⟨g,off,none⟩)) {v:Value}
  (hr:AA w g cs) (ht:ET P ty) (hv:cs[off]?=some v) (h:wpStill P ops w Q rest (a.put o.dst v)):wpStill P ops w Q (o::rest) a :=
 IQ hgd (MJ ho hx ht ((hr.cell off).trans hv)) h
theorem A7p (i:Nat) (hm:Mem w0 w rs) (hgd:Region.wanted o (yielded ops a.tmps)=true) (ho:o.op=.store ty x y) (hx:a.eval x=.pointer (some ⟨g,off,none⟩)) {v:Value} (hy:a.eval y=v) 
  (hi:rs[i]?=some (g,cs)) (ht:ET P ty) (hf:off < cs.size) (hc:v.cells=#[v]) (h1:v.oneCell'=true) (hn:cs.setIfInBounds off v=ns)
  (h:∀ w',Mem w0 w' (rs.set i (g,ns))->wpList P ops Q rest (a.put o.dst undef) w'):wpList P ops Q (o::rest) a w:=by
 have hr:=hm.get i hi;have hcell:w.cell? ⟨g,off,none⟩=some cs[off]:=by rw [hr.cell];simp [hf]
 have hst:(store ⟨g,off,none⟩ v).run P w=.ok () (w.setCell ⟨g,off,none⟩ v):=by
  rw [run_store P w _ v _ h1,hcell];simp [hr.free off]
 have hrun:(execOp a.eval o).run P w=.ok .skip (w.setCell ⟨g,off,none⟩ v):=by
  cases hq:P.info? ty with
 |none=>have:=ht.2;simp [hq] at this
 |some i =>
   have hs:i.size=1:=by have:=ht.2;simpa [hq] using this
   unfold execOp;simp only [ho,hx,hy,Instr.storeAt,Instr.sureAddr,s_b,s_p,r_o,storeVar,hc,sizeOf,typeInfo,run_program,hq,hs];simp [storeCells,Addr.add_zero',hst,Result.andThen]
 refine FN hgd hrun (h _ ?_);rw [<- hn];exact hm.setCell i off v hi
end steps
theorem rG (l m:I_) (o:Nat):splice (B l) o (B m)=B (l.take o++m++l.drop (o+m.length)):=by
 apply Array.ext';simp [splice,B,vs,List.map_take,List.map_drop]
theorem nJ (l:I_) (a b:Nat):(B l).extract a b=B ((l.take b).drop a):=by
 apply Array.ext';simp [B,vs,List.map_take,List.map_drop,List.drop_take]
theorem Uy {ops:O_} {rest:Q_} {o:Oper} {a:Act} {w0 w:World} {Q:Exit->P_} {rs:Rws} (i:Nat) (hm:Mem w0 w rs) (hgd:Region.wanted o (yielded ops a.tmps)=true) 
  (ho:o.op=.call { callee:=.builtin .copy,args:=#[x,y],argTypes:=#[t,t'] }) (hu:P.underlying t=some (.slice elem)) (hs:(P.info? elem).map (·.size)=some 1)
  (hx:a.eval x=.slice (some ⟨g,off,none⟩) dLen dCap) (hy:a.eval y=.slice (some ⟨gs,os,none⟩) sLen sCap)
  {vs:A_} (hi:rs[i]?=some (g,cs)) (hr:AA w gs cs2) (hn:vs.size=Nat.min sLen dLen) (hv:cs2.extract os (os+vs.size)=vs) (hfit:off+vs.size<=cs.size) (h1:∀ v ∈ vs,v.oneCell'=true) (hns:splice cs off vs=ns)
  (h:∀ w',Mem w0 w' (rs.set i (g,ns))->wpList P ops Q rest (a.put o.dst (.int .i64 vs.size)) w'):wpList P ops Q (o::rest) a w:=by
 obtain ⟨tt,hg⟩:=hm.get i hi
 have hsrc:∀ j v,vs.toList[j]?=some v->w.cell? ((⟨gs,os,none⟩:Addr).add j)=some v:=by
  intro j v hj;rw [Addr.add_lit,hr.cell];rw [<- hv] at hj;simp only [a_g,Array.getElem?_extract] at hj;split at hj
  ·exact hj
  ·cases hj
 have hrun:=run_copy_row P w t t' o.type elem g off dLen dCap ⟨gs,os,none⟩ sLen sCap cs tt vs.toList hu hs hg (by simpa using hn) hsrc (by simpa using hfit) (fun v hv=>h1 v (by simpa using hv));have e:(cs.toList.take off++vs.toList++cs.toList.drop (off+vs.toList.length)).toArray=ns:=by rw [<- hns];simp [splice]
 rw [e] at hrun
 have hrun':(execOp a.eval o).run P w=.ok (.value (.int .i64 vs.size)) (w.setRow g ns):=by
  unfold execOp;simp only [ho,resolve,invoke,builtin,s_b,s_p,r_o,l_y,List.map_cons,List.map_nil,hx,hy,hrun,goInt];simp
 exact A8 hgd hrun' (h _ (hm.setRow i ns hi))
def QY (v:Option Value) (d n:Nat):Prop:=(v=none/\n=d)\/∃ z:Int,v=some (.int .i64 z)/\z=n
theorem run_sliceBound {w:World} (n y:Nat) (c:BoundsCode) (h:n<=y):(Instr.sliceBound (.int .i64 n) y c).run P w=.ok n w:=by
 simp [Instr.sliceBound,asIntOf,show (n:Int)<=(y:Int) by omega,show (0:Int)<=(n:Int) by omega]
theorem QD {w:World} (b:Bool) (len cap:Nat) (lo hi:Option Value) (L H:Nat) (hl:QY lo 0 L) (hh:QY hi len H) (h1:L<=H) (h2:H<=cap) :
  (Instr.sliceBounds b len cap lo hi none).run P w=.ok (L,H,cap) w:=by
 rcases hl with ⟨rfl,rfl⟩|⟨_,rfl,rfl⟩<;>rcases hh with ⟨rfl,rfl⟩|⟨_,rfl,rfl⟩<;>simp [Instr.sliceBounds,s_b,run_sliceBound,h1,h2,Option.isSome]
theorem Iq {o:Oper} {a:Act} {w:World} (ho:o.op=.slice ty x lo hi none) {elem:Nat} (hu:P.underlying ty=some (.array n elem)) (hs:(P.info? elem).map (·.size)=some 1)
  (hx:a.eval x=.pointer (some ⟨g,off,none⟩)) (L H:Nat) (hl:QY (lo.map a.eval) 0 L) (hh:QY (hi.map a.eval) n H) (h1:L<=H) (h2:H<=n) (h3:L < n) (e1:off+L=off') (e2:H - L=len) (e3:n - L=cap) :
  (execOp a.eval o).run P w=.ok (.value (.slice (some ⟨g,off',none⟩) len cap)) w:=by
 subst e1 e2 e3;have hb:=QD (P:=P) (w:=w) false n n _ _ L H hl hh h1 h2;cases hq:P.info? elem with
|none=>simp [hq] at hs
|some i =>
  have hi':i.size=1:=by simpa [hq] using hs
  unfold execOp;simp only [ho,hx,Instr.sliceAt,s_b,r_u hu,r_o,Instr.sureAddr,s_p,Option.map_none,hb,sizeOf,typeInfo,run_program,hq,hi'];simp [show ¬ n=L by omega,Addr.add_lit]
theorem Du {o:Oper} {a:Act} {w:World} (ho:o.op=.load ty x) (hx:a.eval x=.pointer (some ⟨g,0,none⟩)) 
  (hr:AA w g cs) (ht:Aq P ty cs.size):(execOp a.eval o).run P w=.ok (.value (.agg cs)) w:=by
 have h:=Gp (P:=P) (off:=0) ho hx hr ht (by omega);rwa [show cs.extract 0 (0+cs.size)=cs by simp] at h
theorem UN {o:Oper} {a:Act} {w:World} (ho:o.op=.binOp .eql t x y t') (hx:a.eval x=.agg (vs k l).toArray) (hy:a.eval y=.agg (vs k m).toArray)
  (hgt:P.eqGuardType P.depth t=false) (hu:P.underlying t=some (.array n e)) (he:P.underlying e=some (.int k)) (hi:P.info? e=some i) (hc:P.cellsOf e=1) (hl:l.length=n) (hm:m.length=n) :
  (execOp a.eval o).run P w=.ok (.value (.bool (l == m))) w:=by
 unfold execOp;simp only [ho,hx,hy,s_b,run_eqGuard_agg w .eql t x y _ _ hgt,r_o,WM hu he hi hc l m hl hm,s_p]
theorem Aa {o:Oper} {a:Act} {w:World} (ho:o.op=.load ty x) (hx:a.eval x=.pointer (some ⟨g,off,none⟩)) {v:Value}
  (hr:AA w g cs) (ht:ET P ty) (hv:cs[off]?=some v):(execOp a.eval o).run P w=.ok (.value v) w:=MJ ho hx ht ((hr.cell off).trans hv)
theorem DZ {o:Oper} {a:Act} {w:World} {i:Nat} {v:Value} (ho:o.op=.index ty x y) (hx:a.eval x=.agg cs) (hy:a.eval y=.int k (i:Nat))
  (hu:P.underlying ty=some (.array n e)) (he:ET P e) (hi:i < n) (hv:cs[i]?=some v):(execOp a.eval o).run P w=.ok (.value v) w:=by
 cases hq:P.info? e with
|none=>have:=he.2;simp [hq] at this
|some inf =>
  have hs:inf.size=1:=by have:=he.2;simpa [hq] using this
  have hp:(part e cs i).run P w=.ok v w:=by simp [part,s_b,he.1,hv]
  unfold execOp;simp only [ho,hx,hy,Instr.index,asIntOf,s_b,s_p,r_o,r_u hu];rw [if_pos (by omega)];simp [sizeOf,typeInfo,hq,hs,hp]
def str (l:I_):ByteArray:=l.foldl (fun r n=>r.push (UInt8.ofNat n.toNat)) ByteArray.empty
theorem A7A {o:Oper} {a:Act} {w:World} {d:TypeId} (ho:o.op=.convert s d x) (hs:P.underlying s=some (.slice e)) (he:P.underlying e=some (.int .u8)) (hd:P.underlying d=some .string)
  (hx:a.eval x=.slice ad l.length c) (hn:ad=none->l=[]) (hc:∀ A,ad=some A->∀ j u,(vs .u8 l)[j]?=some u->w.cell? (A.add j)=some u) :
  (execOp a.eval o).run P w=.ok (.value (.string (str l))) w:=by
 unfold execOp;simp only [ho,hx,s_b,run_convert_bytes_string w s d e ad l.length c hs he hd];cases ad with
|none =>
  rw [hn rfl];rfl
|some A =>
  have hl:=run_loadCells_list (P:=P) w A (vs .u8 l) (hc A rfl);rw [Ai] at hl;rw [run_bytesToString w A l.length c l (by rw [hl];rfl)];rfl
theorem A7r {o:Oper} {a:Act} {w:World} (ho:o.op=.binOp .eql t x y t') {p q:ByteArray} (hx:a.eval x=.string p) (hy:a.eval y=.string q) (hb:(p.toList == q.toList)=b) :
  (execOp a.eval o).run P w=.ok (.value (.bool b)) w:=by
 subst hb;unfold execOp;simp only [ho,hx,hy,eqGuard_at_string,s_b,s_p,r_o];simp [binOp,Op.stringOp,Result.andThen]
section
variable {G:Prop}
theorem xaa (h:G:=by
 simp only [HT.v];go_enter func93,ntmps93;have hm:=Own.nil w
 go_wp2_with (first
  |(go_at_call 134;have _t:=hm;refine (CG.out _).mono ?_;rintro e w1 ⟨h1,hb⟩;replace hm:=hm.call hb;clear hb _t;simp only [GrP] at h1;first|(obtain ⟨x1,x2,rfl⟩:=h1)|(subst h1))
  |(with_reducible (first|refine wl 3 0 hm ?_|refine wl 3 1 hm ?_|refine wl 3 2 hm ?_|refine wl 3 3 hm ?_))
  |(with_reducible (first|refine wl 5 0 hm ?_|refine wl 5 1 hm ?_|refine wl 5 2 hm ?_|refine wl 5 3 hm ?_))
  |(with_reducible refine gLd (t:=86) ?_;(first|(refine A8 rfl (ld2 0 hm rfl rfl rfl (ag rfl) rfl rfl) ?_)|(refine A8 rfl (ld2 1 hm rfl rfl rfl (ag rfl) rfl rfl) ?_)|(refine A8 rfl (ld2 2 hm rfl rfl rfl (ag rfl) rfl rfl) ?_)|(refine A8 rfl (ld2 3 hm rfl rfl rfl (ag rfl) rfl rfl) ?_)))
  |(with_reducible (first|refine wla 137 0 hm ?_|refine wla 137 1 hm ?_|refine wla 137 2 hm ?_|refine wla 137 3 hm ?_))
  |(with_reducible refine gSt (t:=3) ?_;(first|(refine Ad rfl (AZ 0 hm rfl rfl (Ac rfl) rfl (ot rfl) (by simp) rfl rfl rfl ?_);clear hm;intro w hm;try simp only [puts,s2,List.set,List.eraseIdx,s3] at hm)|(refine Ad rfl (AZ 1 hm rfl rfl (Ac rfl) rfl (ot rfl) (by simp) rfl rfl rfl ?_);clear hm;intro w hm;try simp only [puts,s2,List.set,List.eraseIdx,s3] at hm)|(refine Ad rfl (AZ 2 hm rfl rfl (Ac rfl) rfl (ot rfl) (by simp) rfl rfl rfl ?_);clear hm;intro w hm;try simp only [puts,s2,List.set,List.eraseIdx,s3] at hm)|(refine Ad rfl (AZ 3 hm rfl rfl (Ac rfl) rfl (ot rfl) (by simp) rfl rfl rfl ?_);clear hm;intro w hm;try simp only [puts,s2,List.set,List.eraseIdx,s3] at hm)|(refine Ad rfl (AZ 0 hm rfl rfl rfl rfl (ot rfl) (by simp) rfl rfl rfl ?_);clear hm;intro w hm;try simp only [puts,s2,List.set,List.eraseIdx,s3] at hm)|(refine Ad rfl (AZ 1 hm rfl rfl rfl rfl (ot rfl) (by simp) rfl rfl rfl ?_);clear hm;intro w hm;try simp only [puts,s2,List.set,List.eraseIdx,s3] at hm)|(refine Ad rfl (AZ 2 hm rfl rfl rfl rfl (ot rfl) (by simp) rfl rfl rfl ?_);clear hm;intro w hm;try simp only [puts,s2,List.set,List.eraseIdx,s3] at hm)|(refine Ad rfl (AZ 3 hm rfl rfl rfl rfl (ot rfl) (by simp) rfl rfl rfl ?_);clear hm;intro w hm;try simp only [puts,s2,List.set,List.eraseIdx,s3] at hm)))
  |(with_reducible (first|refine ws 86 0 hm ?_|refine ws 86 1 hm ?_|refine ws 86 2 hm ?_|refine ws 86 3 hm ?_|refine wu 86 0 hm ?_|refine wu 86 1 hm ?_|refine wu 86 2 hm ?_|refine wu 86 3 hm ?_);clear hm;intro w hm)
  |(with_reducible (first|refine ws 137 0 hm ?_|refine ws 137 1 hm ?_|refine ws 137 2 hm ?_|refine ws 137 3 hm ?_|refine wu 137 0 hm ?_|refine wu 137 1 hm ?_|refine wu 137 2 hm ?_|refine wu 137 3 hm ?_);clear hm;intro w hm)
  |(with_reducible (first|refine ws 199 0 hm ?_|refine ws 199 1 hm ?_|refine ws 199 2 hm ?_|refine ws 199 3 hm ?_|refine wu 199 0 hm ?_|refine wu 199 1 hm ?_|refine wu 199 2 hm ?_|refine wu 199 3 hm ?_);clear hm;intro w hm)
  |(with_reducible first|(refine wa 86 hm Ja ?_;clear hm;intro w g hm)|(refine wa 137 hm NK ?_;clear hm;intro w g hm)|(refine wa 199 hm A7t ?_;clear hm;intro w g hm)|(refine wb hm ?_;clear hm;intro w g hm)))
 (first|refine b_r (Af rfl rfl (hm.row 0 rfl) (ag rfl)) rfl ?_|refine b_r (Af rfl rfl (hm.row 1 rfl) (ag rfl)) rfl ?_|refine b_r (Af rfl rfl (hm.row 2 rfl) (ag rfl)) rfl ?_|refine b_r (Af rfl rfl (hm.row 3 rfl) (ag rfl)) rfl ?_)
 exact xg6):G:=h
theorem xab (h:G:=by
 simp only [HT.v];go_enter func93,ntmps93;have hm:=Own.nil w
 go_wp2_with (first
  |(go_at_call 134;have _t:=hm;refine (CG.out _).mono ?_;rintro e w1 ⟨h1,hb⟩;replace hm:=hm.call hb;clear hb _t;simp only [GrP] at h1;first|(obtain ⟨x1,x2,rfl⟩:=h1)|(subst h1))
  |(with_reducible (first|refine wl 3 0 hm ?_|refine wl 3 1 hm ?_|refine wl 3 2 hm ?_|refine wl 3 3 hm ?_))
  |(with_reducible (first|refine wl 5 0 hm ?_|refine wl 5 1 hm ?_|refine wl 5 2 hm ?_|refine wl 5 3 hm ?_))
  |(with_reducible refine gLd (t:=86) ?_;(first|(refine A8 rfl (ld2 0 hm rfl rfl rfl (ag rfl) rfl rfl) ?_)|(refine A8 rfl (ld2 1 hm rfl rfl rfl (ag rfl) rfl rfl) ?_)|(refine A8 rfl (ld2 2 hm rfl rfl rfl (ag rfl) rfl rfl) ?_)|(refine A8 rfl (ld2 3 hm rfl rfl rfl (ag rfl) rfl rfl) ?_)))
  |(with_reducible (first|refine wla 137 0 hm ?_|refine wla 137 1 hm ?_|refine wla 137 2 hm ?_|refine wla 137 3 hm ?_))
  |(with_reducible refine gSt (t:=3) ?_;(first|(refine Ad rfl (AZ 0 hm rfl rfl (Ac rfl) rfl (ot rfl) (by simp) rfl rfl rfl ?_);clear hm;intro w hm;try simp only [puts,s2,List.set,List.eraseIdx,s3] at hm)|(refine Ad rfl (AZ 1 hm rfl rfl (Ac rfl) rfl (ot rfl) (by simp) rfl rfl rfl ?_);clear hm;intro w hm;try simp only [puts,s2,List.set,List.eraseIdx,s3] at hm)|(refine Ad rfl (AZ 2 hm rfl rfl (Ac rfl) rfl (ot rfl) (by simp) rfl rfl rfl ?_);clear hm;intro w hm;try simp only [puts,s2,List.set,List.eraseIdx,s3] at hm)|(refine Ad rfl (AZ 3 hm rfl rfl (Ac rfl) rfl (ot rfl) (by simp) rfl rfl rfl ?_);clear hm;intro w hm;try simp only [puts,s2,List.set,List.eraseIdx,s3] at hm)|(refine Ad rfl (AZ 0 hm rfl rfl rfl rfl (ot rfl) (by simp) rfl rfl rfl ?_);clear hm;intro w hm;try simp only [puts,s2,List.set,List.eraseIdx,s3] at hm)|(refine Ad rfl (AZ 1 hm rfl rfl rfl rfl (ot rfl) (by simp) rfl rfl rfl ?_);clear hm;intro w hm;try simp only [puts,s2,List.set,List.eraseIdx,s3] at hm)|(refine Ad rfl (AZ 2 hm rfl rfl rfl rfl (ot rfl) (by simp) rfl rfl rfl ?_);clear hm;intro w hm;try simp only [puts,s2,List.set,List.eraseIdx,s3] at hm)|(refine Ad rfl (AZ 3 hm rfl rfl rfl rfl (ot rfl) (by simp) rfl rfl rfl ?_);clear hm;intro w hm;try simp only [puts,s2,List.set,List.eraseIdx,s3] at hm)))
  |(with_reducible (first|refine ws 86 0 hm ?_|refine ws 86 1 hm ?_|refine ws 86 2 hm ?_|refine ws 86 3 hm ?_|refine wu 86 0 hm ?_|refine wu 86 1 hm ?_|refine wu 86 2 hm ?_|refine wu 86 3 hm ?_);clear hm;intro w hm)
  |(with_reducible (first|refine ws 137 0 hm ?_|refine ws 137 1 hm ?_|refine ws 137 2 hm ?_|refine ws 137 3 hm ?_|refine wu 137 0 hm ?_|refine wu 137 1 hm ?_|refine wu 137 2 hm ?_|refine wu 137 3 hm ?_);clear hm;intro w hm)
  |(with_reducible (first|refine ws 199 0 hm ?_|refine ws 199 1 hm ?_|refine ws 199 2 hm ?_|refine ws 199 3 hm ?_|refine wu 199 0 hm ?_|refine wu 199 1 hm ?_|refine wu 199 2 hm ?_|refine wu 199 3 hm ?_);clear hm;intro w hm)
  |(with_reducible first|(refine wa 86 hm Ja ?_;clear hm;intro w g hm)|(refine wa 137 hm NK ?_;clear hm;intro w g hm)|(refine wa 199 hm A7t ?_;clear hm;intro w g hm)|(refine wb hm ?_;clear hm;intro w g hm)))
 (first|refine b_r (Af rfl rfl (hm.row 0 rfl) (ag rfl)) rfl ?_|refine b_r (Af rfl rfl (hm.row 1 rfl) (ag rfl)) rfl ?_|refine b_r (Af rfl rfl (hm.row 2 rfl) (ag rfl)) rfl ?_|refine b_r (Af rfl rfl (hm.row 3 rfl) (ag rfl)) rfl ?_)
 exact ⟨⟨_,_,_,_,rfl⟩,hm.below⟩):G:=h
theorem xac (h:G:=by
 refine BQ hm 12 (.rds [(0,true),(1,false),(2,true),(3,false),(4,false),(5,false),(6,true),(7,false),(8,false)] (.one 9 (.rds [(10,false),(11,false)] .done))) rfl (by kernel_rfl) rfl (by kernel_rfl) (fun _ _ d _ _ h=>by cases d<;>exact h) ?_;clear hm;intro w hm;simp only [KT.rds];refine km (fun W hb=>have hm:=hb.own;lda 0 hm rfl rfl rfl (ag rfl)) ?_;refine kq ?_;refine km (fun W hb=>have hm:=hb.own;ld 0 hm rfl rfl rfl (ot rfl) rfl) ?_
 iterate 3 refine kq ?_
 refine km (fun W hb=>have hm:=hb.own;ld 0 hm rfl rfl rfl (ot rfl) rfl) ?_
 iterate 2 refine kq ?_
 ((refine Bo rfl rfl (Aw 0 hm rfl rfl (Ac rfl) rfl (ag rfl) rfl (Dp rfl) ?_)))
 exact xh2):G:=h
theorem xad (h:G:=by
 go_enter func144,ntmps144;have hm:=Own.nil w0
 go_wp2_with (first
  |(with_reducible refine wb hm ?_;clear hm;intro w g hm)
  |(with_reducible refine gAl ?_;(with_reducible refine wa _ hm Jz ?_;clear hm;intro w g2 hm))
  |(with_reducible refine wl 3 1 hm ?_ (hv:=(by with_unfolding_all (first|exact (Cb HL.out)|exact (CQ HL.out)|exact (E8 HL.out)))))
  |(with_reducible refine wla 141 1 hm ?_ (ht:=c_z (Bq HL.out)))
  |(with_reducible refine gSt (t:=3) ?_;(first|(refine Ad rfl (AZ 1 hm rfl rfl (Ac rfl) rfl (ot rfl) (by first|exact (Es HL.out)|exact (JX HL.out)|exact (Dz HL.out)) rfl rfl (by exact (IE HL.out _)) ?_);clear hm;intro w hm;try simp only [puts,s2,List.set] at hm)|(refine Ad rfl (AZ 1 hm rfl rfl UU rfl (ot rfl) (by first|exact (Es HL.out)|exact (Dz HL.out)) rfl rfl (by first|exact (GY HL.out _)|exact (GX HL.out _)) ?_);clear hm;intro w hm;try simp only [puts,s2,List.set] at hm)))
  |(with_reducible refine ws 141 0 hm ?_ (ht:=c_z (Bq HL.out)) (hs:=c_z (Ce HL.out Az)) (h1:=c_z (Di _ _ _ _ _));clear hm;intro w hm))
 exact xex):G:=h
theorem xaf (h:G:=by
 refine rO hm 18 (.rds [(0,false),(1,true),(2,false),(3,true),(4,false),(5,false),(6,false),(7,false),(8,false),(9,false),(10,true),(11,false),(12,true),(13,false),(14,false),(15,false),(16,false),(17,false)] .done) ?_;clear hm;intro w hm;simp only [KT.rds];refine kq ?_;refine km (fun W hm=>ld 0 hm rfl rfl rfl (ot rfl) rfl) ?_;refine kq ?_;refine km (fun W hm=>ld 0 hm rfl rfl rfl (ot rfl) rfl) ?_
 (refine K_p rfl rfl (fun W=>by go_simp;((rw [IntWalk.i64_in _ (by omega)];done))) ?_)
 try simp only [Act.put,s3]
 (refine K_p rfl rfl (fun W=>by go_simp;((rw [IntWalk.i64_in _ (by omega)];done))) ?_)
 try simp only [Act.put,s3]
 (refine K_p rfl rfl (fun W=>by go_simp;((rw [IntWalk.i64_in _ (by omega)];done))) ?_)
 try simp only [Act.put,s3]
 iterate 2 refine kq ?_
 ((refine Bz rfl rfl ?_))
 try simp only [Act.put,s3]
 ((refine D6 rfl rfl ?_))
 try simp only [Act.put,s3]
 ((refine Bz rfl rfl ?_))
 try simp only [Act.put,s3]
 ((refine D6 rfl rfl ?_))
 try simp only [Act.put,s3]
 ((refine Bz rfl rfl ?_))
 try simp only [Act.put,s3]
 ((refine Bz rfl rfl ?_))
 try simp only [Act.put,s3]
 ((refine Bz rfl rfl ?_))
 try simp only [Act.put,s3]
 iterate 2 refine kq ?_
 exact xf5):G:=h
theorem xag (h:G:=by
 refine rO hm 18 (.rds [(0,false),(1,true),(2,false),(3,true),(4,false),(5,false),(6,false),(7,false),(8,false),(9,false),(10,true),(11,false),(12,true),(13,false),(14,false),(15,false),(16,false),(17,false)] .done) ?_;clear hm;intro w hm;simp only [KT.rds];refine kq ?_;refine km (fun W hm=>ld 0 hm rfl rfl rfl (ot rfl) rfl) ?_;refine kq ?_;refine km (fun W hm=>ld 0 hm rfl rfl rfl (ot rfl) rfl) ?_
 (refine K_p rfl rfl (fun W=>by go_simp;((rw [IntWalk.i64_in _ (by omega)];done))) ?_)
 try simp only [Act.put,s3]
 (refine K_p rfl rfl (fun W=>by go_simp;((rw [IntWalk.i64_in _ (by omega)];done))) ?_)
 try simp only [Act.put,s3]
 (refine K_p rfl rfl (fun W=>by go_simp;((rw [IntWalk.i64_in _ (by omega)];done))) ?_)
 try simp only [Act.put,s3]
 iterate 3 refine kq ?_
 refine km (fun W hm=>ld 0 hm rfl rfl rfl (ot rfl) rfl) ?_;refine kq ?_;refine km (fun W hm=>ld 0 hm rfl rfl rfl (ot rfl) rfl) ?_
 ((refine K_p rfl rfl (fun W=>by go_simp;((rw [IntWalk.i64_in _ (by omega)];done))) ?_))
 try simp only [Act.put,s3]
 ((refine K_p rfl rfl (fun W=>by go_simp;((rw [IntWalk.i64_in _ (by omega)];done))) ?_))
 try simp only [Act.put,s3]
 iterate 3 refine kq ?_
 exact xf5):G:=h
theorem xah (h:G:=by
 rw [r2] at CS;clear k1 k2 k3;go_enter func137,ntmps137;have hm:=Own.nil w
 go_wp2_with (first
  |(go_at_call 182;refine cB (CS.out _) hm ?_;clear hm;intro w1 hm)
  |(with_reducible first|(refine wl _ 0 hm ?_)|(refine wla _ 0 hm ?_)|(refine wla _ 1 hm ?_)|(refine ws _ 0 hm ?_;clear hm;intro w hm)|(refine wa _ hm Ja ?_;clear hm;intro w g hm)|(refine wb hm ?_;clear hm;intro w g hm)))
 (refine b_r (Ae rfl rfl (hm.row 0 rfl) (ag rfl)) rfl ?_)
 exact xg6):G:=h
theorem xaj (h:G:=by
 have l1:({ b with run:=N }:DS).l.length=256:=hl;have l2:({ b with run:=N,dig:=b.dig+1 }:DS).l.length=256:=hl;have hw:IntKind.i64.wrap (b.dig+1)=b.dig+1:=i_6;go_enter func174,ntmps174;have hm:=Own.nil w
 go_wp2_with (first
 |(refine Ar hm rfl rfl rfl ?_;intro w1 g hm1;clear hm)
 |(refine AL hm1 rfl rfl Dc ?_;intro w2 g2 hm2;clear hm1)
 |(refine A8 rfl (Aa (off:=257) rfl rfl (hm2.row 1 rfl) BG (H7 hl)) ?_)
 |(refine A8 rfl (Aa (off:=258) rfl rfl (hm2.row 1 rfl) BG (MH hl)) ?_)
 |(go_at_call 216;have _t:=hm2;refine (CA.out _).mono ?_;rintro e w3 ⟨rfl,hb3⟩;have hm3:=hm2.call hb3;clear hm2)
 |(refine BL (v:=.int .i64 N) 1 hm3 rfl rfl rfl rfl rfl BG (ltV hl 1 (by omega)) rfl rfl (A1e hl _) ?_;intro w4 hm4;simp only [List.set] at hm4;clear hm3)
 |(refine A8 rfl (Aa (off:=258) rfl rfl (hm4.row 1 rfl) BG (MH (b:={ b with run:=N }) l1)) ?_)
 |(refine BL (v:=.int .i64 (b.dig+1)) 1 hm4 rfl rfl rfl rfl rfl BG (ltV (b:={ b with run:=N }) l1 2 (by omega)) rfl rfl (A1d (b:={ b with run:=N }) l1 _) ?_;intro w5 hm5;simp only [List.set] at hm5;clear hm4))
 refine D7 [(0,true),(1,true),(2,true),(3,true),(4,true),(5,true),(6,false),(7,true),(8,true)] (fun W=>Below w.heap.size w W/\AA W g (V { b with run:=N,dig:=b.dig+1 })) rfl (by kernel_rfl) rfl (by kernel_rfl) (fun _ _ d _ _ h=>by cases d<;>exact h) ⟨(hm5.drawn (w5.drawn+1)).below,(hm5.drawn (w5.drawn+1)).row 1 rfl⟩ ?_;have hn:=hm5.drawn (w5.drawn+1);generalize ({ w5 with drawn:=w5.drawn+1 }:World)=wn at hn ⊢;refine Ah rfl rfl (fun W hW=>Du rfl rfl hW.2 (BJ (b:={ b with run:=N,dig:=b.dig+1 }) l2)) ?_;simp only [Act.put,s3];refine Ah rfl rfl (fun W hW=>by go_simp;rfl) ?_;simp only [Act.put,s3];refine Ah rfl rfl (fun W hW=>Aa (off:=257) rfl rfl hW.2 BG (H7 (b:={ b with run:=N,dig:=b.dig+1 }) l2)) ?_;simp only [Act.put,s3];refine Ah rfl rfl (fun W hW=>by go_simp;rfl) ?_;simp only [Act.put,s3]
 refine Ah rfl rfl (fun W hW=>Aa (off:=256) rfl rfl hW.2 BG (H8 (b:={ b with run:=N,dig:=b.dig+1 }) l2)) ?_;simp only [Act.put,s3];refine Ah rfl rfl (fun W hW=>by go_simp;rfl) ?_;simp only [Act.put,s3];refine JE 0 hn rfl rfl rfl rfl rfl rfl (BJ (b:={ b with run:=N,dig:=b.dig+1 }) l2) (BR (b:={ b with run:=N,dig:=b.dig+1 }) l2 BF) (A35 _) (fun w' h=>⟨h.below,h.row 1 rfl⟩) (fun w6 hm6=>?_);simp only [Act.put];simp only [List.set] at hm6;refine Ah rfl rfl (fun W hW=>by go_simp;rfl) ?_;simp only [Act.put,s3];refine Ah rfl rfl (fun W hW=>by go_simp;rfl) ?_;simp only [Act.put,s3];refine IY ?_;go_simp;go_wp2;refine b_r (Ae rfl rfl (hm6.row 0 rfl) (BJ (b:={ b with run:=N,dig:=b.dig+1 }) l2)) rfl ?_;exact ⟨⟨_,rfl,.inl ⟨rfl,rfl⟩⟩,hm6.below⟩):G:=h
theorem xak (h:G:=by
 have hm:=Own.nil w
 go_wp2_with (first
  |(with_reducible refine wa 134 hm Ku ?_;clear hm;intro w g hm)
  |(with_reducible refine gBu ?_;(refine A8 rfl (D9 rfl rfl) ?_))
  |(with_reducible refine ws 134 0 hm ?_ (ht:=c_z (Cm _)) (hs:=c_z (Qy _ _)) (h1:=c_z (Ei _));clear hm;intro w hm))
 refine b_r (AQ rfl rfl (hm.row 0 rfl) (Cm _)) rfl ⟨rfl,hm.below⟩):G:=h
theorem xal (h:G:=by
 go_wp2_with fail
 obtain ⟨m,hmm⟩:∃ m,m=Nat.min bp (k - bp):=⟨_,rfl⟩;have hm0:1<=m/\m<=bp/\m<=k - bp:=by rw [hmm];simp only [Nat.min_def];split<;>omega
 have HMM:=h_ hmm;clear hmm;have hwm:IntKind.i64.wrap ((bp:Int)+(m:Int))=(bp:Int)+m:=i_6;have hS8:Below w.heap.size w { wr with drawn:=wr.drawn+1 }:=(hmr.drawn (wr.drawn+1)).below;refine D7 [(0,true),(1,true),(2,true),(3,true),(4,true),(5,true),(6,true),(7,false),(8,true),(9,true)] (fun W=>Below w.heap.size w W) rfl (by kernel_rfl) rfl (by kernel_rfl) (fun _ _ d _ _ h=>by cases d<;>exact h) hS8 ?_;have hn:=hmr.drawn (wr.drawn+1);clear hS8;generalize ({ wr with drawn:=wr.drawn+1 }:World)=wn at hn ⊢;clear hmr;refine Ah rfl rfl (fun W hW=>by go_simp;rfl) ?_;simp only [Act.put,s3];refine Ah rfl rfl (fun W hW=>by go_simp;rfl) ?_;simp only [Act.put,s3];refine Ah rfl rfl (fun W hW=>by go_simp;rfl) ?_;simp only [Act.put,s3];refine Ah rfl rfl (fun W hW=>A2Y rfl HE.out rfl (.inr ⟨_,rfl⟩) (.inl ⟨rfl,rfl⟩) hbk (Nat.le_refl _)) ?_;rw [Le g k bp hlt]
 simp only [Act.put,s3];refine Ah rfl rfl (fun W hW=>by go_simp;rfl) ?_;simp only [Act.put,s3];refine Ah rfl rfl (fun W hW=>by go_simp;rfl) ?_;simp only [Act.put,s3];refine Ah rfl rfl (fun W hW=>A2Y (l:=0) (h:=bp) rfl HE.out rfl (.inl ⟨rfl,rfl⟩) (.inr ⟨_,rfl⟩) (Nat.zero_le _) (by omega)) ?_;exact xfo):G:=h
theorem xam (h:G:=by
 clear hm;obtain ⟨i,hi0,hi,rfl,rfl,rfl,hm⟩:=hrel;by_cases hlt:i < place
 ·have hin:i < n:=by omega
  have HE:=h_ (Jm col i (by rw [HL.out];exact hin) c);have hbd:=Fz (col.take i) c;have hlt2:=List.length_take_le' i col;rw [HL.out] at hlt2;have w4:IntKind.i64.wrap (eqn (col.take i) c+1)=eqn (col.take i) c+1:=i_6;have w5:IntKind.i64.wrap ((((i - t:Nat)):Int)+1)=(((i - t:Nat)):Int)+1:=i_6;have HY:Hid (((i+1 - t:Nat):Int)=(((i - t:Nat)):Int)+1):=h_ (by omega);have hin2:=hin;clear hbd hlt2;generalize (((i - t:Nat)):Int)=y1 at *;generalize eqn (col.take i) c=z1 at *;have CB1:Hid (∀ W,Below w0.heap.size w0 W->Calls prog 116 #[.pointer (some ⟨ga,0,none⟩),.agg (SP a n),.int .i64 i] W fun e w'=>(e=.returned (.tuple #[.int .u8 (gi col i),.bool true]))/\Below W.heap.size W w'):=h_ fun W h=>CB.out W i h hin;generalize gi col i=x at *;by_cases hx:x=c
  ·rw [if_pos hx] at HE;subst hx;have p1:((c:Int) == (c:Int))=true:=by simp
   exact xfu
  ·rw [if_neg hx,Int.add_zero] at HE;have p1:(x == (c:Int))=false:=by simpa using hx
   clear hx
   exact xfu
 ·obtain rfl:place=i:=by omega
  have HY:Hid (((place % d:Nat):Int)=(((place - t:Nat)):Int)):=h_ (by rw [HR0.out]);generalize (((place - t:Nat)):Int)=y1 at *;generalize hz1:eqn (col.take place) c=z1 at *;have HZ1:=h_ hz1;clear hz1;go_wp2;refine b_r (results_tmp3 rfl _ _ _) rfl ⟨by first|(rw [HY.out];rfl)|(rw [HY.out,HZ1.out];rfl),hm.below⟩):G:=h
theorem xan (h:G:=by
 obtain ⟨i,hi⟩:∃ i,col.length - k=i+1:=⟨col.length - k - 1,by omega⟩;rw [hi] at hT hVl hXl hrb;have hr:r ≠ ix:=fun h=>by rw [A30,if_pos h] at hVl;cases hVl
 rw [A3r hr] at hT;rw [A30,if_neg hr] at hVl;rw [wtx,if_neg hr] at hXl;have hrb2:=(A39 (col:=col) (ix:=ix) hd2 i (aft col (Iw ix r)).toNat).1;have hc0:0<=(if d=0 then (1:Int) else 1+((Iw ix r % d:Nat):Int)):=by split<;>omega
 obtain ⟨cs2,hW2,CN⟩:=A5q (gw:=gw) (gx:=gx) (peak:=peak) (w0:=w0) (rs:=rs) (ss:=ss) hW hr hkk hs0 (by have:=HT.out;omega);have CNh:=h_ CN;have HW2:=h_ hW2;have HTl:=h_ hT;have HVl:=h_ hVl;have HXl:=h_ hXl;have HC0:=h_ hc0;have HJ:=h_ hj;clear CN hW2 hW hT hVl hXl hj hrb hr hrb2 hc0
 go_wp2_with (first
  |((first|go_at_call 30|go_at_call 31);have _t:=hm;refine (CNh.out _ _ hm).mono ?_;clear _t hm;rintro e1 w1 ⟨rfl,hm⟩)
  |(refine Ad rfl (JQ hm rfl HE1.out (Ac rfl) rfl ?_);clear hm;intro w g1 hm)
  |(refine Ad rfl (JQ hm rfl HE2.out (Ac rfl) rfl ?_);clear hm;intro w g2 hm)
  |(go_at_call 107;have _t:=hm;refine (nV a _ [[gi col (Iw ix r)]] _ (A45 hm) (by simp) (by simp)).mono ?_;rintro e1 w1 ⟨rfl,hb⟩;replace hm:=(hm.call hb).dropRow.dropRow;clear hb _t))
 go_roundw
 case rel=>exact ⟨i,(aft col (Iw ix r)).toNat,k+1,_,crc a [[gi col (Iw ix r)]],cs2,rfl,HW2.out,by omega,by omega,by have:=HC0.out;omega,by rw [show col.length - (k+1)=i by omega];have:=HTl.out;omega,by rw [show col.length - (k+1)=i by omega];exact HVl.out,by rw [show col.length - (k+1)=i by omega];exact HXl.out,hm⟩
 case measure=>exact Nat.lt_of_le_of_lt (Fv (n:=i) ⟨(aft col (Iw ix r)).toNat,k+1,_,crc a [[gi col (Iw ix r)]],cs2,rfl,HW2.out,by omega,by omega,by have:=HC0.out;omega,by rw [show col.length - (k+1)=i by omega];have:=HTl.out;omega,by rw [show col.length - (k+1)=i by omega];exact HVl.out,by rw [show col.length - (k+1)=i by omega];exact HXl.out,hm⟩) (by rw [HJ.out];omega)):G:=h
theorem xao (h:G:=by
 go_enter func175,ntmps175;have hm:=Own.nil w
 go_wp2_with (first
  |(go_at_call 219;refine cB (CV.out _) hm ?_;clear hm;intro w1 hm)
  |(with_reducible (first|refine wl 3 0 hm ?_|refine wl 3 1 hm ?_|refine wl 3 2 hm ?_))
  |(with_reducible refine gLd (t:=86) ?_;(first|(refine A8 rfl (ld2 0 hm rfl rfl rfl (ag rfl) rfl rfl) ?_)|(refine A8 rfl (ld2 1 hm rfl rfl rfl (ag rfl) rfl rfl) ?_)|(refine A8 rfl (ld2 2 hm rfl rfl rfl (ag rfl) rfl rfl) ?_)))
  |(with_reducible (first|refine ws 86 0 hm ?_|refine ws 86 1 hm ?_|refine ws 86 2 hm ?_|refine wu 86 0 hm ?_|refine wu 86 1 hm ?_|refine wu 86 2 hm ?_);clear hm;intro w hm)
  |(with_reducible first|(refine wa 86 hm Ja ?_;clear hm;intro w g hm)|(refine wb hm ?_;clear hm;intro w g hm)))
 (first|refine b_r (Ae rfl rfl (hm.row 0 rfl) (ag rfl)) rfl ?_|refine b_r (Ae rfl rfl (hm.row 1 rfl) (ag rfl)) rfl ?_|refine b_r (Ae rfl rfl (hm.row 2 rfl) (ag rfl)) rfl ?_)
 exact xg6):G:=h
theorem xas (h:G:=by
 go_enter func173,ntmps173;have hm:=Own.nil w
 go_wp2_with (first
 |(refine Ar hm rfl rfl rfl ?_;intro w1 g hm1;clear hm)
 |(refine Bd rfl rfl rfl (hm1.row 0 rfl) (F6 _ hl) (Ci hl) (NG hl) ?_)
 |(go_at_call 215;have _t:=hm1;refine (CV.out _).mono ?_;rintro e w2 ⟨rfl,hb2⟩;have hm2:=hm1.call hb2;clear hm1)
 |(refine A8 rfl (Aa (off:=256) rfl rfl (hm2.row 0 rfl) BG (H8 hl)) ?_)
 |(refine A8 rfl (Aa (off:=257) rfl rfl (hm2.row 0 rfl) BG (H7 hl)) ?_)
 |(refine A8 rfl (Aa (off:=258) rfl rfl (hm2.row 0 rfl) BG (MH hl)) ?_)
  )
 go_ret;exact xht):G:=h
theorem xat (h:G:=by
 clear hm;intro w hm
 try simp only [puts,s2,List.set,List.eraseIdx,s3] at hm
 refine ⟨fun W=>Own _ W _ _,fun _ h=>h,hm.dropRow,?_⟩
 try simp only [Act.put,s3]
 iterate 2 refine kq ?_
 refine Ba ?_;go_simp
 go_wp2_with (first
  |(go_at_call 81;refine cB (WV _) hm ?_;clear hm;intro w1 hm)
  |(with_reducible refine gSt (t:=88) ?_;(refine Ad rfl (Aj 3 hm rfl rfl (Ac rfl) rfl (Gt _ _ _ _ _ _ _) (by rw [Bg HZ.out,JZ];decide) (EH _ _ _ _ _ _ _) (Gu HZ.out rfl) ?_);clear hm;intro w hm;try simp only [puts,s2,List.set] at hm))
  |(with_reducible refine wla 88 0 hm ?_)
  |(with_reducible refine gLd (t:=74) ?_;(refine A8 rfl (ldp 0 hm rfl rfl rfl (vs:=#[.int .i64 m2,.int .i64 p2,.int .u32 s2]) rfl (ag rfl) (show 3+3<=7 by decide)) ?_))
  |(with_reducible refine wl 3 0 hm ?_)
  |(with_reducible refine gSt (t:=134) ?_;(refine Ad rfl (Aj 3 hm rfl rfl (Ac rfl) rfl (Cm _) (by rw [Bg HZ2.out];decide) (Ei _) (Eh HZ2.out rfl) ?_);clear hm;intro w hm;try simp only [puts,s2,List.set] at hm))
  |(with_reducible refine gSt (t:=141) ?_;(refine Ad rfl (Aj 3 hm rfl rfl (Ac rfl) rfl yj (by rw [Bg HZ3.out,Ju];decide) XJ (LV HZ3.out Ju) ?_);clear hm;intro w hm;try simp only [puts,s2,List.set] at hm))
  |(with_reducible refine gBu (t:=76) ?_;(refine A8 rfl (Gy rfl rfl rfl) ?_))
  |(with_reducible refine gBu (t:=141) ?_;(refine A8 rfl (Kr rfl) ?_))
  |(with_reducible refine ws 76 2 hm ?_ (h1:=c_z (Ak _ _ _ _ _ rfl _));clear hm;intro w hm)
   )
 exact xa4):G:=h
theorem xgi (h:G:=by
 refine IL (rdt 0 4 (rdt 5 4 (.one 4 (rdt 9 3 (.one 12 .done))))) (fun W=>∃ p,AA W ga (AR (.slice (some ⟨gd,0,none⟩) l.length l.length) (e:Int) p)) rfl (by kernel_rfl) rfl (by kernel_rfl) (fun _ _ d _ _ h=>by cases d<;>exact h) ⟨_,(hm7.drawn (w7.drawn+1)).row 2 rfl⟩ ?_;have k3:=hm7.drawn (w7.drawn+1);generalize ({ w7 with drawn:=w7.drawn+1 }:World)=wn3 at k3 ⊢;clear hm7;simp only [rdt]
 repeat ((first
 |(refine EW rfl rfl (fun W hW=>by obtain ⟨p,hp⟩:=hW;exact Aa (off:=1) rfl rfl hp BG (AR1 _ _ _)) ?_)
 |(refine EW rfl rfl (fun W hW=>by go_simp;rfl) ?_));(try simp only [Act.put,s3]))
 refine yh ?_;refine Ym rfl rfl (Aa (off:=2) rfl rfl (k3.row 2 rfl) BG (AR2 _ _ _)) ⟨_,k3.row 2 rfl⟩ ?_;simp only [Act.put,s3];refine EW (v:=.int .i64 (imax peak (e:Int))) rfl rfl (fun W hW=>by go_simp;rfl) ?_;simp only [Act.put,s3];refine EW rfl rfl (fun W hW=>by go_simp;rfl) ?_;simp only [Act.put,s3];refine EW rfl rfl (fun W hW=>by go_simp;rfl) ?_;simp only [Act.put,s3];refine yh ?_;refine WZ (v:=.int .i64 (imax peak (e:Int))) (off:=2) 2 k3 rfl rfl rfl rfl rfl rfl BG (by show 2 < 3;decide) rfl rfl (fun w8 k4=>⟨_,k4.row 2 rfl⟩) (fun w8 k4=>?_);simp only [List.set,A18] at k4;clear k3
 try simp only [Act.put]
 refine XI ?_;go_simp
 go_wp2_with (first
 |(refine Ag rfl rfl rfl (k4.row 0 rfl) (Eo _ _) ?_)
 |(refine AY 1 k4 rfl rfl rfl rfl rfl (Eo _ _) rfl (yw _ _) ?_;intro w9 k5;simp only [List.set] at k5;clear k4))
 refine b_r (Af rfl rfl (k5.row 1 rfl) (Eo _ _)) rfl ?_;exact ⟨rfl,k5.dropRow.dropRow⟩):G:=h
theorem xau (h:G:=by
 go_wp2_with (first
  |(go_at_call 124;have _t:=hm;refine (CT.out _ _ hm).mono ?_;clear _t hm CT;rintro x w ⟨rfl,RR2,hQ,hm⟩)
  |(with_reducible refine wa 76 hm BX ?_;clear hm;intro w g hm)
  |(with_reducible (first|refine ws 76 0 hm ?_ (h1:=c_z (Ak _ _ _ _ _ rfl _))|refine ws 76 1 hm ?_ (h1:=c_z (Ak _ _ _ _ _ rfl _)));clear hm;intro w hm)
  |(with_reducible refine wla 76 0 hm ?_))
 refine b_r (Af rfl rfl (hm.row 1 rfl) (Dw _ _ _ _ _ _ _)) rfl ⟨rfl,RR2,hQ,hm.dropRow.dropRow⟩):G:=h
theorem xav (h:G:=by
 go_enter func130,ntmps130;have hm:=Own.nil w
 go_wp2_with (first
 |(refine Ar hm rfl rfl rfl ?_;intro w1 g hm1;clear hm)
 |(refine AL hm1 rfl rfl Dc ?_;intro w2 g2 hm2;clear hm1)
 |(refine Ag rfl rfl rfl (hm2.row 1 rfl) (BJ hl) ?_)
 |(go_at_call 173;have _t:=hm2;refine (CV.out _).mono ?_;rintro e w3 ⟨rfl,hb3⟩;have hm3:=hm2.call hb3;clear hm2)
 |(refine A8 rfl (Aa (off:=259) rfl rfl (hm3.row 1 rfl) X3 (Qm hl)) ?_)
 |(refine Ag rfl rfl rfl (hm3.row 1 rfl) (BJ hl) ?_)
 |(refine AY 0 hm3 rfl rfl rfl rfl rfl (BJ hl) (BR hl BF) (A35 _) ?_;intro w4 hm4;simp only [List.set] at hm4;clear hm3))
 exact xf3):G:=h
theorem xaw (h:G:=by
 clear hm;intro w hm
 try simp only [puts,s2,List.set,List.eraseIdx,s3] at hm
 refine ⟨fun W=>Own _ W _ _,fun _ h=>h,hm.dropRow,?_⟩
 try simp only [Act.put,s3]
 iterate 2 refine kq ?_
 refine Ba ?_;go_simp
 go_wp2_with (first
  |(go_at_call 87;refine cB (WU _) hm ?_;clear hm;intro w1 hm)
  |(with_reducible refine gSt (t:=88) ?_;(refine Ad rfl (Aj 3 hm rfl rfl (Ac rfl) rfl (Gt _ _ _ _ _ _ _) (by rw [Bg HZ.out,JZ];decide) (EH _ _ _ _ _ _ _) (Gu HZ.out rfl) ?_);clear hm;intro w hm;try simp only [puts,s2,List.set] at hm))
  |(with_reducible refine wla 88 0 hm ?_)
  |(with_reducible refine gLd (t:=74) ?_;(refine A8 rfl (ldp 0 hm rfl rfl rfl (vs:=#[.int .i64 m2,.int .i64 p2,.int .u32 s2]) rfl (ag rfl) (show 3+3<=7 by decide)) ?_))
  |(with_reducible refine wl 3 0 hm ?_)
  |(with_reducible refine gSt (t:=134) ?_;(refine Ad rfl (Aj 3 hm rfl rfl (Ac rfl) rfl (Cm _) (by rw [Bg HZ2.out];decide) (Ei _) (Eh HZ2.out rfl) ?_);clear hm;intro w hm;try simp only [puts,s2,List.set] at hm))
  |(with_reducible refine gBu (t:=76) ?_;(refine A8 rfl (Gy rfl rfl rfl) ?_))
  |(with_reducible refine ws 76 2 hm ?_ (h1:=c_z (Ak _ _ _ _ _ rfl _));clear hm;intro w hm)
   )
 exact xa4):G:=h
theorem xax (h:G:=by
 clear hv hd ho;generalize D5 V M c=x at *;generalize EM M c=y at *;go_enter func101,ntmps101;have hm:=Own.nil w
 go_wp2_with (first
  |(with_reducible refine gMm ?_;(refine Ad rfl (BD hm rfl ?_);clear hm;intro w r hm hd))
  |(with_reducible refine gIn ?_;(refine Ad rfl (Bj hm hd rfl (Ac rfl) BP E5 underlying210 kd3 (EY (by decide)) (BA rfl) (EU rfl) ?_);clear hm;intro w hm))
  |(with_reducible refine gBo (t:=211) ?_;(refine A8 rfl (BH rfl (Ac rfl) BP) ?_))
  |(with_reducible refine gLk ?_;(refine A8 rfl (Ez (v:=.func (.func 139) #[] #[]) 0 hm rfl (Ac rfl) (Ac rfl) rfl underlying210 kd3 (EY (by decide)) (BA rfl) (Bh rfl rfl).1 (Bh rfl rfl).2) ?_))
  |(go_at_call 142;refine cB (CV.out _) hm ?_;clear hm;intro w1 hm)
  |(go_at_call 139;refine cB (CM.out _) hm ?_;clear hm;intro w1 hm)
  |(with_reducible refine wl 3 1 hm ?_)
  |(with_reducible (first|refine wla 88 0 hm ?_|refine wla 88 1 hm ?_))
  |(with_reducible (first|refine ws 88 0 hm ?_|refine wu 88 1 hm ?_);clear hm;intro w hm)
  |(with_reducible first|(refine wa 88 hm H9 ?_;clear hm;intro w g hm)|(refine wb hm ?_;clear hm;intro w g hm)))
 (refine b_r (Ae rfl rfl (hm.row 0 rfl) (ag rfl)) rfl ?_)
 exact xg6):G:=h
theorem xay (h:G:=by
 clear hv hd ho;generalize D5 V M c=x at *;generalize EM M c=y at *;go_enter func101,ntmps101;have hm:=Own.nil w
 go_wp2_with (first
  |(with_reducible refine gMm ?_;(refine Ad rfl (BD hm rfl ?_);clear hm;intro w r hm hd))
  |(with_reducible refine gIn ?_;(refine Ad rfl (Bj hm hd rfl (Ac rfl) BP E5 underlying210 kd3 (EY (by decide)) (BA rfl) (EU rfl) ?_);clear hm;intro w hm))
  |(with_reducible refine gBo (t:=211) ?_;(refine A8 rfl (BH rfl (Ac rfl) BP) ?_))
  |(with_reducible refine gLk ?_;(refine A8 rfl (Ez (v:=.func (.func 140) #[] #[]) 0 hm rfl (Ac rfl) (Ac rfl) rfl underlying210 kd3 (EY (by decide)) (BA rfl) (Bh rfl rfl).1 (Bh rfl rfl).2) ?_))
  |(go_at_call 142;refine cB (CV.out _) hm ?_;clear hm;intro w1 hm)
  |(go_at_call 140;refine cB (CM.out _) hm ?_;clear hm;intro w1 hm)
  |(with_reducible refine wl 3 1 hm ?_)
  |(with_reducible (first|refine wla 88 0 hm ?_|refine wla 88 1 hm ?_))
  |(with_reducible (first|refine ws 88 0 hm ?_|refine wu 88 1 hm ?_);clear hm;intro w hm)
  |(with_reducible first|(refine wa 88 hm H9 ?_;clear hm;intro w g hm)|(refine wb hm ?_;clear hm;intro w g hm)))
 (refine b_r (Ae rfl rfl (hm.row 0 rfl) (ag rfl)) rfl ?_)
 exact xg6):G:=h
theorem xa2 (h:G:=by
 go_enter func167,ntmps167;have hm:=Own.nil w0
 go_wp2_with (first
  |(go_at_call 209;refine cB (CB.out _) hm ?_;clear hm;intro w1 hm)
  |(go_at_call 211;refine cB (CK.out _) hm ?_;clear hm;intro w1 hm)
  |(go_at_call 210;refine (JH _ _ _ _).mono ?_;rintro e w1 ⟨rfl,rfl⟩)
  |(with_reducible refine wb hm ?_;clear hm;intro w g hm)
  |(with_reducible refine wl 3 0 hm ?_ (hv:=(by with_unfolding_all (first|exact (CJ HL.out)|exact (Cb HL.out)|exact (CQ HL.out)|exact (E8 HL.out)))))
  |(with_reducible refine wla 141 0 hm ?_ (ht:=c_z (Bq HL.out)))
   )
 go_ret;exact xg6):G:=h
theorem xg6 (h:G:=by
 exact ⟨rfl,hm.below⟩):G:=h
theorem xa4 (h:G:=by
 refine b_r (Af rfl rfl (hm.row 2 rfl) (Dw _ _ _ _ _ _ _)) rfl ⟨rfl,RR2,hQ,hm.dropRow.dropRow.dropRow⟩):G:=h
theorem xa5 (h:G:=by
 go_enter func134,ntmps134;have hm:=Own.nil w
 go_wp2_with (first
  |(go_at_call 175;refine cB (CS.out _) hm ?_;clear hm;intro w1 hm)
  |(with_reducible (first|refine wl 3 0 hm ?_|refine wl 3 1 hm ?_|refine wl 3 2 hm ?_))
  |(with_reducible refine gLd (t:=86) ?_;(first|(refine A8 rfl (ld2 0 hm rfl rfl rfl (ag rfl) rfl rfl) ?_)|(refine A8 rfl (ld2 1 hm rfl rfl rfl (ag rfl) rfl rfl) ?_)|(refine A8 rfl (ld2 2 hm rfl rfl rfl (ag rfl) rfl rfl) ?_)))
  |(with_reducible (first|refine ws 86 0 hm ?_|refine ws 86 1 hm ?_|refine ws 86 2 hm ?_|refine wu 86 0 hm ?_|refine wu 86 1 hm ?_|refine wu 86 2 hm ?_);clear hm;intro w hm)
  |(with_reducible first|(refine wa 86 hm Ja ?_;clear hm;intro w g hm)|(refine wb hm ?_;clear hm;intro w g hm)))
 (first|refine b_r (Ae rfl rfl (hm.row 0 rfl) (ag rfl)) rfl ?_|refine b_r (Ae rfl rfl (hm.row 1 rfl) (ag rfl)) rfl ?_|refine b_r (Ae rfl rfl (hm.row 2 rfl) (ag rfl)) rfl ?_)
 exact ⟨⟨_,_,rfl⟩,hm.below⟩):G:=h
theorem xa7 (h:G:=by
 obtain ⟨m,hlt,hIm⟩:=hN (by trivial);have hm3:=hm.dropRow;exact ⟨⟨m,R3,hIm,hm3⟩,Nat.lt_of_le_of_lt (Fv ⟨R3,hIm,hm3⟩) hlt⟩):G:=h
theorem xa8 (h:G:=by
 refine b_r (AQ rfl rfl (hm.row 1 rfl) (Dw _ _ _ _ _ _ _)) rfl ?_;exact ⟨_,_,_,_,_,_,_,R3,rfl,hJ (by trivial),hm.dropRow.dropRow.J9⟩):G:=h
theorem xba (h:G:=by
 clear hf hg;go_enter func182,ntmps182;have hm:=Own.nil w
 go_wp2_with (first
  |(go_at_call 220;refine cB (CV.out _) hm ?_;clear hm;intro w1 hm)
  |(with_reducible first|(refine wl _ 1 hm ?_)|(refine wla _ 1 hm ?_)|(refine ws _ 0 hm ?_;clear hm;intro w hm)|(refine wa _ hm Ja ?_;clear hm;intro w g hm)|(refine wb hm ?_;clear hm;intro w g hm)))
 (refine b_r (Ae rfl rfl (hm.row 0 rfl) (ag rfl)) rfl ?_)
 exact ⟨by rw [e1.out];rfl,hm.below⟩):G:=h
theorem xbf (h:G:=by
 rw [FY] at h ⊢;split at h
 ·rename_i h0;rw [if_pos h0];obtain ⟨a1,a2,a3,a4,_⟩:=TL h0.1;have hr:=jl a3;split at h
  ·rename_i h1;rw [if_pos h1];rw [G9] at h1 ⊢;split at h1
   ·rename_i h2;rw [if_pos h2];exact ⟨by simp,a1,fun hf=>by rw [h0.2.1] at hf;cases hf⟩
   ·rename_i h2;rw [if_neg h2];split at h1
    ·rename_i h3;rw [if_pos h3];have h1:=of_decide_eq_true h1;exact ⟨by simp only;omega,by simp,fun _=>rfl⟩
    ·rename_i h3;rw [if_neg h3];split at h1
     ·cases h1
     ·rename_i h4;rw [if_neg h4];exact ⟨by simp only [List.length_append,List.length_singleton];omega,by simp only;omega,fun hf=>by cases hf⟩
  ·cases h
 ·cases h):G:=h
theorem xbh (h:G:=by
 have HO:=h_ (or8 s c s0 s1 c0 c1);go_enter func141,ntmps141;have hm:=Own.nil w
 go_wp2_with (first
  |(with_reducible first|(refine wl _ 1 hm ?_)|(refine wla _ 1 hm ?_))
  |(refine Ad rfl (AZ 1 hm rfl rfl (Ac rfl) rfl (ot rfl) (by simp) rfl rfl rfl ?_);clear hm;intro w hm;try simp only [puts,s2,List.set,List.eraseIdx,s3] at hm)
  |(with_reducible first|(refine ws _ 0 hm ?_;clear hm;intro w hm)|(refine wa _ hm H9 ?_;clear hm;intro w g hm)|(refine wb hm ?_;clear hm;intro w g hm)))
 (refine b_r (Af rfl rfl (hm.row 0 rfl) (ag rfl)) rfl ?_)
 exact ⟨by rw [<- HO.out];rfl,hm.below⟩):G:=h
theorem xbi (h:G:=by
 simp [SA,Act.put,BI h,slot_ne]):G:=h
theorem xbj (h:G:=by
 refine ⟨_,Fh ho hu hr,?_⟩;have e2:m - l=capOf c0 (m - l):=by unfold capOf;rw [if_pos (by omega)]
 have h9:=VR.slice (e:=e) (off:=if m=l then off else off+l * s) (n:=hh - l) (c:=m - l) hg (by rw [<- e2];omega) (fun hb=>absurd hb (by omega));simp only at h9;rwa [<- e2,Px] at h9):G:=h
theorem xbl (h:G:=by
 clear s1;go_enter func183,ntmps183;have hm:=Own.nil w
 go_wp2_with ((go_at_call 100;refine (FX _ _ _ _).mono ?_;rintro e w1 ⟨rfl,rfl⟩))
 go_ret;exact ⟨rb (by simp [*]),hm.below⟩):G:=h
theorem xbm (h:G:=by
 go_wp2;simp only [Exit.jump];refine b_r (results_tmp3 rfl _ _ _) rfl ?_;rw [HRes.out];exact ⟨X,_,rfl,HX.out,hm.sub ((((List.Sublist.append (List.Sublist.refl X) (List.sublist_append_right Y rs)).cons _).cons _).cons _) (List.Sublist.refl _)⟩):G:=h
theorem xbo (h:G:=by
 go_enter func173,ntmps173;have hm:=Own.nil w
 go_wp2_with (first
 |(refine Ar hm rfl rfl rfl ?_;intro w1 g hm1;clear hm)
 |(refine Bd rfl rfl rfl (hm1.row 0 rfl) (F6 _ hl) (Ci hl) (NG hl) ?_)
 |(go_at_call 215;have _t:=hm1;refine (CV.out _).mono ?_;rintro e w2 ⟨rfl,hb2⟩;have hm2:=hm1.call hb2;clear hm1)
 |(refine A8 rfl (Aa (off:=256) rfl rfl (hm2.row 0 rfl) BG (H8 hl)) ?_)
 |(refine A8 rfl (Aa (off:=257) rfl rfl (hm2.row 0 rfl) BG (H7 hl)) ?_)
  )
 go_ret;exact xht):G:=h
theorem xbp (h:G:=by
 have HR:Hid (Dt L 0 0 (dNew m) l [] 0=Dt L q2 i2 b (l.drop (k+1)) out (k+1)):=h_ (by rw [hR];simp);clear hR CE HV2 hT HD
 go_wp2_with (first
  |(with_reducible first|(refine wla 143 0 hm ?_ (ht:=c_z (DT HL.out)))|(refine ws 143 2 hm ?_ (ht:=c_z (DT HL.out)) (hs:=c_z (Dn HL.out HL.out)) (h1:=c_z (Eb _ _ _));clear hm;intro w hm)))
 go_roundw
 case rel=>exact ⟨k+1,q2,i2,b,out,X,E,by omega,by go_num,HP2.out,HV.out,hO,hO0,HX.out,HR.out,hm.dropRow⟩
 case measure=>simp [intOf];omega):G:=h
theorem xbr (h:G:=by
 have hm:=Mem.nil w
 go_wp2_with (first
  |(refine Ho (by assumption) rfl rfl rfl ?_;intro w1 g1 hm1)
  |(refine DF (by assumption) rfl rfl QZ ?_;intro w2 g2 hm2)
  |(refine Ag rfl rfl rfl (Mem.get (by assumption) 1 rfl) (F6 l Hl.out) ?_)
  |(refine DC 0 (by assumption) rfl rfl rfl rfl rfl (F6 l Hl.out) (QI _ _ Hl.out DK) (Ut _) ?_;intro w3 hm3;simp only [List.set] at hm3))
 refine b_r (Ae rfl rfl (hm3.get 0 rfl) (F6 l Hl.out)) rfl ⟨rfl,hm3.below⟩):G:=h
theorem xg7 (h:G:=by
 go_ret;exact ⟨rfl,rfl⟩):G:=h
theorem xbu (h:G:=by
 go_enter func110,ntmps110;have hm:=Own.nil w
 go_wp2_with (first
 |(go_at_call 11;refine (A3u n s _ HS.out).mono ?_;rintro e w1 ⟨rfl,hb1⟩;rw [HE.out];have hm1:=hm.call hb1;clear hm))
 go_ret2
 exact xhc):G:=h
theorem xbw (h:G:=by
 go_enter func173,ntmps173;have hm:=Own.nil w
 go_wp2_with (first
 |(refine Ar hm rfl rfl rfl ?_;intro w1 g hm1;clear hm)
 |(refine Bd rfl rfl rfl (hm1.row 0 rfl) (F6 _ hl) (Ci hl) (NG hl) ?_)
 |(go_at_call 215;have _t:=hm1;refine (CV.out _).mono ?_;rintro e w2 ⟨rfl,hb2⟩;have hm2:=hm1.call hb2;clear hm1)
 |(refine A8 rfl (Aa (off:=256) rfl rfl (hm2.row 0 rfl) BG (H8 hl)) ?_)
  )
 go_ret;exact xht):G:=h
theorem xby (h:G:=by
 simp only [Nat.reduceAdd,Nat.reduceSub,Int.reducePow] at *;omega):G:=h
theorem xb0 (h:G:=by
 go_enter func128,ntmps128;have hm:=Own.nil w
 go_wp2_with (first
 |(refine AL hm rfl rfl Dc ?_;intro w2 g2 hm2;clear hm)
 |(refine Ag rfl rfl rfl (hm2.row 0 rfl) (BJ BF) ?_)
 |(refine AY 0 hm2 rfl rfl rfl rfl rfl (BJ BF) (BR BF BF) (A35 _) ?_;intro w4 hm4;simp only [List.set] at hm4;clear hm2))
 refine b_r (AQ rfl rfl (hm4.row 0 rfl) (BJ BF)) rfl ?_;exact ⟨rfl,hm4.below⟩):G:=h
theorem xb1 (h:G:=by
 refine kq ?_
 (refine Em rfl rfl (Aw 0 hm rfl rfl (Ac rfl) rfl (Bq HM.out) (Ce HM.out Az) (Di _ _ _ _ _) ?_))
 clear hm;intro w hm
 try simp only [puts,s2,List.set,List.eraseIdx,s3] at hm
 refine ⟨fun W=>Own _ W _ _,hm,?_⟩
 try simp only [Act.put,s3]
 refine kq ?_;refine Ba ?_;go_simp;go_wp2;refine b_r (Af rfl rfl (hm.row 0 rfl) (Bq HM.out)) rfl ⟨rfl,hm.below⟩):G:=h
theorem xb3 (h:G:=by
 go_enter func42,ntmps42;have hm:=Own.nil w
 go_wp2_with (first
 |(go_at_call 94;refine (A44 n 2 3 _ rfl rfl).mono ?_;rintro e w1 ⟨⟨r1,rfl,ho1⟩,hb1⟩;rw [HE.out];have hm1:=hm.call hb1;clear hm)
 |(go_at_call 96;refine (A5W 3 _ (by omega) (by omega)).mono ?_;rintro e w2 ⟨rfl,hb2⟩;have hm2:=hm1.call hb2;clear hm1))
 go_ret2
 exact xht):G:=h
theorem xb4 (h:G:=by
 by_cases h:k=i
 ·subst h;by_cases h2:k < 256
  ·simp [h2]
  ·simp [h2]
 ·simp only [h,if_false];by_cases h2:i < 256
  ·rw [List.getElem?_range h2];simp only [Option.map_some,Option.some.injEq];by_cases h3:i < k
   ·rw [if_pos h3,if_pos (by omega)]
   ·rw [if_neg h3,if_neg (by omega)]
  ·rw [List.getElem?_eq_none (by rw [List.length_range];omega)];rfl):G:=h
theorem xb5 (h:G:=by
 refine b_r (Af rfl rfl (hm.row 0 rfl) (Dw _ _ _ _ _ _ _)) rfl ⟨rfl,RR2,hQ,hm.dropRow⟩):G:=h
theorem xb6 (h:G:=by
 go_enter func42,ntmps42;have hm:=Own.nil w
 go_wp2_with (first
 |(go_at_call 94;refine (A44 n 2 1 _ rfl rfl).mono ?_;rintro e w1 ⟨⟨r1,rfl,ho1⟩,hb1⟩;rw [HE.out];have hm1:=hm.call hb1;clear hm)
 |(go_at_call 96;refine (A5Y _).mono ?_;rintro e w2 ⟨rfl,hb2⟩;have hm2:=hm1.call hb2;clear hm1))
 go_ret2
 exact xht):G:=h
theorem xb7 (h:G:=by
 go_enter func42,ntmps42;have hm:=Own.nil w
 go_wp2_with (first
 |(go_at_call 94;refine (A44 n 2 2 _ rfl rfl).mono ?_;rintro e w1 ⟨⟨r1,rfl,ho1⟩,hb1⟩;rw [HE.out];have hm1:=hm.call hb1;clear hm)
 |(go_at_call 96;refine (A5X _).mono ?_;rintro e w2 ⟨rfl,hb2⟩;have hm2:=hm1.call hb2;clear hm1))
 go_ret2
 exact xht):G:=h
theorem xb8 (h:G:=by
 have hm:=Own.nil w
 go_wp2_with (first
 |(refine A3h hm rfl rfl rfl rfl ?_;intro w1 g1 hm1;clear hm))
 exact xf2):G:=h
theorem xb9 (h:G:=by
 go_enter func94,ntmps94;have hm:=Own.nil w
 go_wp2_with (first
 |(go_at_call 135;refine (A7o _).mono ?_;rintro e w1 ⟨⟨r,rfl,hH⟩,hb1⟩;have hm1:=hm.call hb1;clear hm)
 |(refine A8 rfl (A3a rfl rfl rfl hH HS.out HM.out HP.out) ?_))
 go_ret2
 exact xgp):G:=h
theorem xcc (h:G:=by
 exact A3e rfl rfl rfl (Zm rfl rfl rfl rfl hr) ⟨rfl,h1,h2⟩):G:=h
theorem xce (h:G:=by
 refine b_r (results_tmp3 rfl _ _ _) rfl ?_;rw [HRN.out];exact ⟨by decide,rfl,hm.sub (((((List.sublist_append_right X rs).trans (List.sublist_append_right Y _)).trans (List.sublist_append_right Z _)).cons _)) (List.Sublist.refl _)⟩):G:=h
theorem xcf (h:G:=by
 simp only [Exit.jump];refine b_r (results_tmp3 rfl _ _ _) rfl ?_;rw [HRes.out];exact ⟨X,_,rfl,HX.out,hm.sub (((List.Sublist.append (List.Sublist.refl X) (List.sublist_append_right Y rs)).cons _).cons _) (List.Sublist.refl _)⟩):G:=h
theorem xcg (h:G:=by
 have hs:i.size=1:=by have:=ht.2;simpa [hq] using this
 unfold execOp;simp only [ho,hx,hy,Instr.storeAt,Instr.sureAddr,s_b,s_p,r_o,storeVar,hc,sizeOf,typeInfo,run_program,hq,hs];simp [storeCells,Addr.add_zero',hst,Result.andThen]):G:=h
theorem xch (h:G:=by
 split at h
 all_goals first|(cases h;done)|skip
 all_goals (cases h;cases hu;cases hv;refine ⟨?_,?_,?_,?_⟩)
 all_goals first
 |(rw [Fj];unfold Op.equalIn;simp [r_u hut];done)
 |(unfold eqGuard;cases op<;>rfl)
 |(intro h2;subst h2;rfl)):G:=h
theorem xck (h:G:=by
 subst hz;refine ⟨?_,World.cell?_setCell_same' _ _ _ (by rw [hck4];rfl),by rw [World.frozen?_setCell];exact hfk4⟩;rw [<- hcb4];exact World.cell?_of_block (a:=⟨B1,o1,none⟩) (Below.heap_setCell _ _ _ _ hne)):G:=h
theorem xcl (h:G:=by
 obtain ⟨Q,rfl,_⟩:=HS2.out.apart;have hX:=HX.out;clear HNX HS2 HZ hz HC;go_wp2
 all_goals (refine b_r (A7u rfl _ _ _) rfl ?_;exact ⟨X,_,rfl,hX,hm.sub (List.sublist_append_right Q X) (List.Sublist.refl _)⟩)):G:=h
theorem xcm (h:G:=by
 go_roundw
 case rel=>exact ⟨k+1,by omega,by go_num,by rw [hT2];exact hm⟩
 case measure=>simp [intOf];omega):G:=h
theorem xcn (h:G:=by
 obtain ⟨fn,tmps,assign,body,hy,hR⟩:=hY pre (.int .i64 0) [] wr (by rw [hx];rfl) hJs
 gi_wp2
 refine hR.mono ?_;rintro e W3 ⟨rfl,hJ3,hk3,hk4⟩
 gi_wp2
 go_end0
 exact ⟨⟨_,rfl⟩,by rw [hx];exact hJ3⟩):G:=h
theorem xco (h:G:=by
 unfold execOp;simp only [ho,resolve,invoke,builtin,s_b,s_p,r_o,l_y,List.map_cons,List.map_nil,hx,hy,hr]):G:=h
theorem xcp (h:G:=by
 obtain ⟨p,hp,e⟩:=List.mem_map.1 hm;have:=(h.mem.rows p hp).lt;omega):G:=h
theorem xcq (h:G:=by
 rw [<- l_a,<- l_a];exact List.Perm.append_right _ List.perm_append_comm):G:=h
theorem xcr (h:G:=by
 go_enter func177,ntmps177;have hm:=Own.nil w
 go_wp2_with (first
 |(refine A3v hm rfl rfl rfl rfl rfl ?_;intro w1 g1 hm1;clear hm))
 exact xf2):G:=h
theorem xcs (h:G:=by
 exact ⟨⟨_,rfl,A36 (hm2.get 0 rfl)⟩,hm2.below⟩):G:=h
theorem xct (h:G:=by
 obtain rfl:k=bp:=by omega
 go_wp2_with fail
 go_ret;exact ⟨⟨g,cells,by rw [l_r];rfl,hmr.row 0 rfl,hmr.mem.own _ (List.mem_cons_self ..),by rw [l_r,HT.out];simp [vs]⟩,hmr.below⟩):G:=h
theorem xcw (h:G:=by
 rename_i s c2;have hnb:=hW.nb b1 b2;refine ⟨⟨hW.bk,hW.no,hW.hd,hW.ob⟩,fun o h=>h,Int.le_refl _,?_⟩;rw [if_pos he,if_pos hb];show s.W<=s.W+(2 * (s.nn * s.bmx)+s.bmx);omega):G:=h
theorem xg2 (h:G:=by
 exact pq _ ⟨⟨by kernel_rfl,by kernel_rfl⟩,by kernel_rfl⟩):G:=h
theorem xcy (h:G:=by
 go_roundw
 case rel=>exact ⟨k+1,by omega,by go_num,hm7⟩
 case measure=>simp [intOf];omega):G:=h
theorem xcz (h:G:=by
 cases h;cases hu;cases hv;refine ⟨?_,?_,?_,?_⟩
 ·rw [Fj];unfold Op.equalIn;simp [r_u hut]
 ·exact xhz
 ·intro h2;subst h2;rfl
 ·intro h2;subst h2;rfl):G:=h
theorem xc1 (h:G:=by
 try simp only [Act.put,s3]
 (first|refine kq ?_|(refine Bz rfl rfl ?_))
 try simp only [Act.put,s3]
 refine kq ?_;refine Ba ?_;go_simp;go_wp2
 go_ret2
 exact ⟨rfl,hm⟩):G:=h
theorem xc4 (h:G:=by
 have h1:=hev _ _ hk;generalize hq:a.eval x=q at h1;cases h1;obtain ⟨h3,h4⟩:=Lh hx;refine ⟨v,?_,h4 e⟩;unfold execOp;simp only [ho,hq,s_b,h3,r_o,s_p]):G:=h
theorem xc5 (h:G:=by
 refine b_r (Af rfl rfl (hm.row 0 rfl) (Dw _ _ _ _ _ _ _)) rfl ⟨rfl,hm.dropRow⟩):G:=h
theorem xc7 (h:G:=by
 have h4:(R.drop (j / 8)).take 1=[gi R (j / 8)]:=by
  rw [List.drop_eq_getElem_cons h3,List.take_succ_cons,List.take_zero];simp [gi,h3]
 rw [h4];simp [big]):G:=h
theorem xg3 (h:G:=by
 have:j=j2:=by
  rcases ((hS j o' c2).2 j2 o2 d1).1 with h1|h1
  ·exact h1
  ·exact absurd d3 (h1 s c4)
 subst this;rw [c3] at d2;cases d2;rw [c5];exact d5):G:=h
theorem xc9 (h:G:=by
 rw [HN.out]
 first|exact ⟨_,rfl,hm.below⟩|exact ⟨⟨_,rfl⟩,hm.below⟩):G:=h
theorem xda (h:G:=by
 exact ⟨fun h=>absurd h hne,fun h=>absurd h hne,h.hn,fun h=>absurd h hne,h.all,fun _=>Tgt.of (h.hn _ _ hd).1 (h.hn _ _ hd).2 hG'.symm⟩):G:=h
theorem xdb (h:G:=by
 have h0:=(mem_ready.1 hr).1;rcases Nat.lt_or_ge i l.size with h'|h'
 ·simp [h'] at h0 ⊢;exact h0
 ·simp [Array.getElem?_eq_none h'] at h0):G:=h
theorem xdd (h:G:=by
 refine ⟨?_,Nat.lt_of_le_of_lt (Fv ⟨_,hIj,hm.dropRow⟩) hjn⟩
 repeat apply Exists.intro
 exact ⟨⟨j,_,hIj,hm.dropRow⟩,rfl⟩):G:=h
theorem xde (h:G:=by
 simp [Instr.fill,Value.cells,he.size,newRow,hz,Result.andThen,hr,J,vs]):G:=h
theorem xdf (h:G:=by
 go_ret;exact ⟨rfl,hm.dropRow⟩):G:=h
theorem xdh (h:G:=by
 go_roundw
 case rel=>exact ⟨k+1,by omega,by go_num,by rw [HE2.out],by rw [hT2];exact hm⟩
 case measure=>simp [intOf];omega):G:=h
theorem xdi (h:G:=by
 simp only [AB];split<;>exact ⟨fun t h=>(by cases h),fun n h=>(by cases h),fun e _ h=>(by cases h),fun h=>(by cases h)⟩):G:=h
theorem xdk (h:G:=by
 refine b_r (Af rfl rfl (hm.row 3 rfl) (Dw _ _ _ _ _ _ _)) rfl ⟨_,X,RR2,rfl,hX,hQ,hm.dropRow.dropRow.dropRow.dropRow⟩):G:=h
theorem xdl (h:G:=by
 cases hx;exact ⟨_,FU ho (by rw [hq,hr];exact hgd _ _ hg) (by rw [hq,hr];simp only [binOp,s_b,heq,r_o];rfl),.bool _⟩):G:=h
theorem xdq (h:G:=by
 refine hfree m om hm hmi ?_ hno;by_cases hjm:j=m
 ·subst hjm;exact hjun
 ·rw [getD_set_ne true hjm] at hun;exact hun):G:=h
theorem xdr (h:G:=by
 obtain ⟨ad2,cp2,he,hc⟩:=HI.out W h;cases he;exact hc k hk):G:=h
theorem xds (h:G:=by
 rw [<- l_a,<- l_a];exact List.perm_append_comm.append_right _):G:=h
theorem xdu (h:G:=by
 exact ⟨fun t h=>(by cases h),fun n h=>(by cases h),fun e _ h=>(by cases h),fun h=>(by first|rfl|cases h)⟩):G:=h
theorem xdv (h:G:=by
 cases hx;exact ⟨_,FU ho (by rw [hq,hr];exact Ob) (by rw [hq,hr,<- hb];simp [binOp,Op.stringOp]),.bool _⟩):G:=h
theorem xdx (h:G:=by
 go_enter func72,ntmps72;go_wp2
 go_ret2
 exact ⟨rfl,rfl⟩):G:=h
theorem xdy (h:G:=by
 obtain ⟨ad2,cp2,he,hc⟩:=hv W h;cases he;exact hc k hk):G:=h
theorem xd1 (h:G:=by
 split
 ·exact this
 ·split
  ·split
   ·rw [List.length_set];exact this
   ·exact this
  ·split<;>exact this):G:=h
theorem xd2 (h:G:=by
 go_ret;exact xht):G:=h
theorem xd4 (h:G:=by
 simp at hj;subst hj;rw [Addr.add_zero'];exact (hW.below.cell (block_lt_of_cell HA.out)).trans HA.out):G:=h
theorem xd5 (h:G:=by
 exact ⟨fun t h=>(by cases h),fun n h=>(by cases h),fun e _ h=>(by cases h),fun h=>(by cases h)⟩):G:=h
theorem xd7 (h:G:=by
 rw [run_convert_bytes_string w s d et _ _ _ u1 u2 hud,run_bytesToString w _ 0 _ [] (hl0 _)];rfl):G:=h
theorem xd8 (h:G:=by
 cases hx;exact ⟨_,FU ho (by rw [hq,hr];exact Tq) (by rw [hq,hr];simp [binOp,heq]),.bool _⟩):G:=h
theorem xg4 (h:G:=by
 obtain ⟨g,c,q1,q2,q3⟩:=hr.live k o hk ho;exact ⟨g,c,q1,q2,q3.block (hb.block g q3.lt)⟩):G:=h
theorem xea (h:G:=by
 rintro x w' ⟨rfl,hm2⟩;exact ⟨rfl,_,⟨X,E,v,used,rfl,ht,hB,hl,hj2,hu0,hu⟩,hm2.Xj⟩):G:=h
theorem xeb (h:G:=by
 have:b=0\/b=1\/b=2\/b=3:=by omega
 rcases this with rfl|rfl|rfl|rfl<;>simp at hp ⊢<;>omega):G:=h
theorem xec (h:G:=by
 rintro x w' ⟨rfl,hm2⟩;exact ⟨rfl,_,⟨X,E,_,used,rfl,ht,hB,hl,hj,hu0,hu⟩,hm2.Nh⟩):G:=h
theorem xed (h:G:=by
 rw [if_pos h1,if_pos (by omega),show i - o=(i - (o+1))+1 by omega,List.getElem?_cons_succ]):G:=h
theorem xg8 (h:G:=by
 go_ret;exact ⟨rfl,hm⟩):G:=h
theorem xee (h:G:=by
 go_roundw
 case rel=>exact ⟨k+1,by omega,by go_num,hm3⟩
 case measure=>simp [intOf];omega):G:=h
theorem xeg (h:G:=by
 rintro x w' ⟨rfl,RR',hQ,hm⟩;exact CPo.bad (by simp [A7f,starved,AB,hj]) hm hz.five hQ):G:=h
theorem xeh (h:G:=by
 go_roundw
 case rel=>exact ⟨k+1,by omega,by go_num,hm⟩
 case measure=>simp [intOf];omega):G:=h
theorem xei (h:G:=by
 go_wp2_with ((with_reducible refine wl _ 0 hm ?_))
 all_goals (go_ret;exact ⟨rfl,hm⟩)):G:=h
theorem xek (h:G:=by
 unfold execOp;simp only [ho,Instr.alloc,newVar,newRow,Value.cells,s_b,s_p,hz,r_o];rfl):G:=h
theorem xel (h:G:=by
 refine ⟨_,?_,.int _ _⟩;rw [hrun];simp [builtin,Builtin.len_,ht,hts,r_u hu,goInt]):G:=h
theorem xem (h:G:=by
 rw [es];have ek:((w.next.k:Nat):Int)=(w.k:Int)+1:=by simp [Wk.next]
 rw [ek];exact hm):G:=h
theorem xen (h:G:=by
 simp only [Dk.be,Dk.fu,hk];exact ⟨by trivial,by omega,fun h=>by omega,by omega⟩):G:=h
theorem xeo (h:G:=by
 have:x=c:=Array.ext' (by rw [e1,e2]);have:y=d:=Array.ext' (by rw [e3,e4]);simp [*]):G:=h
theorem xep (h:G:=by
 refine b_r (Qj rfl rfl (hm.row 0 rfl) (Dw _ _ _ _ _ _ _)) rfl ⟨rfl,hm.dropRow⟩):G:=h
theorem xeq (h:G:=by
 subst hji;exact hy.wpOp hi ⟨fun h=>hS (by rwa [getD_set_ne false hik] at h),H⟩):G:=h
theorem xer (h:G:=by
 exact ⟨by kernel_rfl,by kernel_rfl,by kernel_rfl,by kernel_rfl,by kernel_rfl⟩):G:=h
theorem xet (h:G:=by
 rw [BitVec.ofInt_natCast,BitVec.toNat_ofNat];exact Nat.mod_eq_of_lt (by omega)):G:=h
theorem xeu (h:G:=by
 rcases bm with ⟨_,q,_⟩|⟨_,q,q3,_⟩
 · omega
 · rw [if_neg hH] at q;omega):G:=h
theorem xev (h:G:=by
 rcases List.mem_cons.1 hm with hm|hm
 ·cases hm;exact hkj rfl
 ·exact h1 o' hm):G:=h
theorem xew (h:G:=by
 refine b_r (Ae rfl rfl (hm.row 0 rfl) (DT HL.out)) rfl ⟨rfl,hm.below⟩):G:=h
theorem xex (h:G:=by
 refine b_r (Af rfl rfl (hm.row 0 rfl) (Bq HL.out)) rfl ⟨rfl,hm.below⟩):G:=h
theorem xe5 (h:G:=by
 obtain ⟨p,hp,e1,_⟩:=m3 y hy;rw [e1];exact (Lp hK u2 (b2 p hp)).2):G:=h
theorem xe6 (h:G:=by
 cases ev<;>obtain ⟨h1,h2⟩:=hE<;>first|exact ⟨rfl,h2⟩|omega):G:=h
theorem xe8 (h:G:=by
 have:=Om L _ _ _ _ _ _ _ _ hc;show G _ _ _ _=G _ _ _ _
 congr 2
 omega):G:=h
theorem xfa (h:G:=by
 rw [if_neg (by omega),Array.getElem?_setIfInBounds_ne (by omega)]):G:=h
theorem xfb (h:G:=by
 by_cases h:r=index
 ·simp [h]
 ·rw [decide_eq_false h];simp;omega):G:=h
theorem xfc (h:G:=by
 cases h;exact ⟨by simp [binOp,Op.intCmp,XA],fun e=>.bool _⟩):G:=h
theorem xfd (h:G:=by
 cases h;exact ⟨by simp [binOp,Op.intCmp,jT],fun e=>.bool _⟩):G:=h
theorem xfe (h:G:=by
 exact ⟨decide_eq_true (by omega),decide_eq_true (by omega)⟩):G:=h
theorem xfg (h:G:=by
 rintro x w' ⟨rfl,RR',hQ,hm⟩;exact CPo.bad rfl hm hz.five hQ):G:=h
theorem xg5 (h:G:=by
 split
 ·exact .inl ⟨by simp,by simp,rfl,rfl⟩
 ·exact .inl rfl):G:=h
theorem xfj (h:G:=by
 rintro x w' ⟨rfl,hm⟩;exact ⟨rfl,Own.tof (A:=_::_) hm⟩):G:=h
theorem xg9 (h:G:=by
 exact ⟨by omega,by omega,hc.st0 c,by have:=hc.st1;omega⟩):G:=h
theorem xha (h:G:=by
 simp only [Dk.fu,hb];omega):G:=h
theorem xhb (h:G:=by
 unfold execOp;simp [ho,hx,hy,eqGuard,binOp,h,Result.andThen]):G:=h
theorem xhc (h:G:=by
 exact ⟨rfl,hm1.below⟩):G:=h
theorem xhd (h:G:=by
 obtain ⟨A2,he,h2⟩:=HC.out W h p hpl;cases he;exact h2):G:=h
theorem xhe (h:G:=by
 rw [ND _ _ _ _ 4 (by omega),if_neg (by omega),h.out i hi]):G:=h
theorem xhf (h:G:=by
 simp only [Dk.W,hk];omega):G:=h
theorem xhg (h:G:=by
 go_enter func138,ntmps138;have hm:=Own.nil w
 go_wp2_with (first
  |(with_reducible refine wla _ 1 hm ?_)
  |(refine Ad rfl (AZ 1 hm rfl rfl rfl rfl (ot rfl) (by simp) rfl rfl rfl ?_);clear hm;intro w hm;try simp only [puts,s2,List.set,List.eraseIdx,s3] at hm)
  |(with_reducible first|(refine ws _ 0 hm ?_;clear hm;intro w hm)|(refine wa _ hm H9 ?_;clear hm;intro w g hm)|(refine wb hm ?_;clear hm;intro w g hm)))
 (refine b_r (Af rfl rfl (hm.row 0 rfl) (ag rfl)) rfl ?_)
 exact xg6):G:=h
theorem xhh (h:G:=by
 go_enter func134,ntmps134;have hm:=Own.nil w
 go_wp2_with (first
  |(go_at_call 175;refine cB (CS.out _) hm ?_;clear hm;intro w1 hm)
  |(with_reducible (first|refine wl 3 0 hm ?_|refine wl 3 1 hm ?_|refine wl 3 2 hm ?_))
  |(with_reducible refine gLd (t:=86) ?_;(first|(refine A8 rfl (ld2 0 hm rfl rfl rfl (ag rfl) rfl rfl) ?_)|(refine A8 rfl (ld2 1 hm rfl rfl rfl (ag rfl) rfl rfl) ?_)|(refine A8 rfl (ld2 2 hm rfl rfl rfl (ag rfl) rfl rfl) ?_)))
  |(with_reducible (first|refine ws 86 0 hm ?_|refine ws 86 1 hm ?_|refine ws 86 2 hm ?_|refine wu 86 0 hm ?_|refine wu 86 1 hm ?_|refine wu 86 2 hm ?_);clear hm;intro w hm)
  |(with_reducible first|(refine wa 86 hm Ja ?_;clear hm;intro w g hm)|(refine wb hm ?_;clear hm;intro w g hm)))
 (first|refine b_r (Ae rfl rfl (hm.row 0 rfl) (ag rfl)) rfl ?_|refine b_r (Ae rfl rfl (hm.row 1 rfl) (ag rfl)) rfl ?_|refine b_r (Ae rfl rfl (hm.row 2 rfl) (ag rfl)) rfl ?_)
 exact xg6):G:=h
theorem xfo (h:G:=by
 rw [Ig];simp only [Act.put,s3];have hm4:=hn.setRow 0 (splice cells bp (List.replicate m (Value.int .u8 c)).toArray) rfl;simp only [List.set] at hm4;refine RS rfl rfl (Jl (xs:=List.replicate m (.int .u8 c)) rfl underlying22 sz5 rfl rfl (hn.row 0 rfl) (by rw [l_r,HMM.out];try rfl) (fun j u hj=>by obtain ⟨rfl,hjm⟩:=SY hj;exact Iz (hn.row 0 rfl) j (Tz HT.out (by omega))) (by rw [l_r];omega) (fun u hu=>by rw [List.eq_of_mem_replicate hu];rfl)) hm4.below ?_;rw [l_r];simp only [Act.put,s3];refine Ah rfl rfl (fun W hW=>by go_simp;rfl) ?_
 simp only [Act.put,s3];refine Ah rfl rfl (fun W hW=>by go_simp;rfl) ?_;simp only [Act.put,s3];refine IY ?_;have hts:=GH (m:=m) HT.out;have hss:=GK (cs:=cells) (bp:=bp) (m:=m) (v:=.int .u8 c) (by omega);clear hn HMM;go_simp;go_wp2;go_roundw
 case rel=>exact ⟨bp+m,_,by omega,by omega,by go_num,by rw [hss];exact hN2,hts,hm4⟩
 case measure=>simp [intOf];omega):G:=h
theorem xhj (h:G:=by
 clear hc;go_enter func98,ntmps98;have hm:=Own.nil w
 go_wp2_with (first
  |(go_at_call 136;refine cB (CV.out _) hm ?_;clear hm;intro w1 hm)
  |(with_reducible first|(refine wl _ 1 hm ?_)|(refine wla _ 0 hm ?_)|(refine wla _ 1 hm ?_)|(refine ws _ 0 hm ?_;clear hm;intro w hm)|(refine wa _ hm NK ?_;clear hm;intro w g hm)|(refine wb hm ?_;clear hm;intro w g hm)))
 (refine b_r (Ae rfl rfl (hm.row 0 rfl) (ag rfl)) rfl ?_)
 exact xg6):G:=h
theorem xhk (h:G:=by
 go_enter func98,ntmps98;have hm:=Own.nil w
 go_wp2_with (first
  |(go_at_call 136;refine cB (CV.out _) hm ?_;clear hm;intro w1 hm)
  |(with_reducible first|(refine wl _ 1 hm ?_)|(refine wla _ 1 hm ?_)|(refine ws _ 0 hm ?_;clear hm;intro w hm)|(refine wa _ hm NK ?_;clear hm;intro w g hm)|(refine wb hm ?_;clear hm;intro w g hm)))
 (refine b_r (Ae rfl rfl (hm.row 0 rfl) (ag rfl)) rfl ?_)
 exact xg6):G:=h
theorem xhl (h:G:=by
 rintro e w1 ⟨rfl,rfl⟩;refine hK _ _ ⟨fun W=>Own _ W _ _,fun _ h=>h,hm,?_⟩;clear hK K
 try simp only [Act.put,s3]
 (first|refine kq ?_|(refine Bz rfl rfl ?_))
 try simp only [Act.put,s3]
 iterate 2 refine kq ?_
 refine Ba ?_;go_simp
 exact xh5):G:=h
theorem xfp (h:G:=by
 clear hm;intro w hm
 try simp only [puts,s2,List.set,List.eraseIdx,s3] at hm
 refine ⟨fun W=>Own _ W _ _,fun _ h=>h,hm.dropRow,?_⟩
 try simp only [Act.put,s3]
 iterate 2 refine kq ?_
 refine Ba ?_;go_simp
 go_wp2_with (first
  |(with_reducible refine gSt (t:=88) ?_;(refine Ad rfl (Aj 3 hm rfl rfl (Ac rfl) rfl (Gt _ _ _ _ _ _ _) (by rw [Bg HZ.out,JZ];decide) (EH _ _ _ _ _ _ _) (Gu HZ.out rfl) ?_);clear hm;intro w hm;try simp only [puts,s2,List.set] at hm))
  |(with_reducible first|(refine wla 88 0 hm ?_)|(refine ws 76 2 hm ?_ (h1:=c_z (Ak _ _ _ _ _ rfl _));clear hm;intro w hm)|(refine wla 76 1 hm ?_)))
 exact xa4):G:=h
theorem xhm (h:G:=by
 clear hv hV;go_enter func142,ntmps142;have hm:=Own.nil w
 go_wp2_with (first
  |(go_at_call 100;refine (FX _ _ _ _).mono ?_;rintro e w1 ⟨rfl,rfl⟩)
  |(go_at_call 181;refine cB (CC.out _) hm ?_;clear hm;intro w1 hm)
  |(with_reducible first|(refine wl _ 0 hm ?_)|(refine wl _ 1 hm ?_))
  |(refine A8 rfl (ld3 0 hm rfl rfl rfl (ag rfl) rfl rfl rfl) ?_)
  |(refine A8 rfl (ld2 1 hm rfl rfl rfl (ag rfl) rfl rfl) ?_)
  |(with_reducible first|(refine wla _ 1 hm ?_)|(refine ws _ 0 hm ?_;clear hm;intro w hm)|(refine wa _ hm qh ?_;clear hm;intro w g hm)|(refine wb hm ?_;clear hm;intro w g hm)))
 go_ret;exact xg6):G:=h
theorem xhn (h:G:=by
 go_enter func216,ntmps216;exact xh6):G:=h
theorem xho (h:G:=by
 go_enter func136,ntmps136;have hm:=Own.nil w
 go_wp2_with (first
  |(go_at_call 100;refine (CW.out _).mono ?_;rintro e w1 ⟨rfl,rfl⟩)
  |(with_reducible first|(refine wl _ 0 hm ?_)|(refine wla _ 0 hm ?_)|(refine wb hm ?_;clear hm;intro w g hm)))
 go_ret;exact xg6):G:=h
theorem xhp (h:G:=by
 go_enter func163,ntmps163;have hm:=Own.nil w
 go_wp2_with (first
  |(with_reducible refine wb hm ?_;clear hm;intro w g hm)
  |(with_reducible (first|refine wl 3 0 hm ?_ (hv:=(by with_unfolding_all (first|exact (SP0 _ _)|exact (SP1 _ _))))|refine wl 3 1 hm ?_ (hv:=(by with_unfolding_all (first|exact (SP0 _ _)|exact (SP1 _ _))))))
  |(with_reducible (first|refine wla 50 0 hm ?_ (ht:=c_z (Eo _ _))|refine wla 50 1 hm ?_ (ht:=c_z (Eo _ _)))))
 go_ret;exact xg6):G:=h
theorem xfq (h:G:=by
 clear hm;intro w hm
 try simp only [puts,s2,List.set,List.eraseIdx,s3] at hm
 refine ⟨fun W=>Own _ W _ _,fun _ h=>h,hm.dropRow,?_⟩
 try simp only [Act.put,s3]
 iterate 2 refine kq ?_
 refine Ba ?_;go_simp
 go_wp2_with (first
  |(go_at_call 125;have _t:=hm;refine (CW.out hm).mono ?_;clear _t hm;rintro x w ⟨rfl,hm⟩)
  |(with_reducible refine ws 76 2 hm ?_ (h1:=c_z (Ak _ _ _ _ _ rfl _));clear hm;intro w hm))
 exact xa4):G:=h
theorem xfr (h:G:=by
 rw [r2,show decide (n<=most/\(128<=c\/0 < n))=false by exact decide_eq_false (by omega)];exact xah):G:=h
theorem xhq (h:G:=by
 go_enter func10,ntmps10;have hm:=Own.nil w
 go_wp2_with (first
 |(go_at_call 39;refine CT.out.mono ?_;rintro e1 w1 ⟨v2,rfl,hb⟩;replace hm:=hm.call hb;clear hb)
 |(with_reducible first|(refine wa 80 hm qg ?_;clear hm;intro w3 g3 hm)|(refine ws 80 0 hm ?_ (hs:=c_z (A8p _ _));clear hm;intro w hm)|(refine wl 3 0 hm ?_)))
 go_ret;exact xg6):G:=h
theorem xfu (h:G:=by
 go_wp2_with (first
  |(go_at_call 116;refine cB (CB1.out _ hm.below) hm ?_;clear hm;intro w1 hm)
  |(with_reducible refine wla 50 1 hm ?_ (ht:=c_z (Eo _ _))))
 go_roundw
 case rel=>exact ⟨i+1,by omega,by omega,by go_num,by rw [HE.out],by rw [HY.out],hm⟩
 case measure=>simp [intOf];omega):G:=h
theorem xfx (h:G:=by
 rw [r2,show decide (n<=most/\(128<=c\/0 < n))=true by exact decide_eq_true (by omega)];exact xah):G:=h
theorem xhr (h:G:=by
 try simp only [Act.put,s3]
 iterate 2 refine kq ?_
 refine Ba ?_;go_simp;go_wp2;go_ret;exact xg6):G:=h
theorem xhs (h:G:=by
 go_enter func96,ntmps96;exact xh6):G:=h
theorem xht (h:G:=by
 exact ⟨rfl,hm2.below⟩):G:=h
theorem xf2 (h:G:=by
 go_ret;exact ⟨⟨_,rfl,A36 (hm1.get 0 rfl)⟩,hm1.below⟩):G:=h
theorem xf3 (h:G:=by
 refine b_r (EJ rfl rfl (hm4.row 0 rfl) (BJ hl)) rfl ?_;exact ⟨⟨_,rfl,.inl ⟨rfl,rfl⟩⟩,hm4.below⟩):G:=h
theorem xf4 (h:G:=by
 refine b_r (results_tmp3 rfl _ _ _) rfl ⟨rfl,hm⟩):G:=h
theorem xf5 (h:G:=by
 refine Ba ?_;go_simp;go_wp2
 all_goals (go_ret;exact ⟨rb (by simp [DX, *]),hm.below⟩)):G:=h
theorem xhu (h:G:=by
 go_enter func100,ntmps100;go_wp2;exact xg7):G:=h
theorem xhv (h:G:=by
 go_enter func119,ntmps119;go_wp2;exact xg7):G:=h
theorem xhw (h:G:=by
 go_enter func210,ntmps210;go_wp2;exact xg7):G:=h
theorem xhx (h:G:=by
 go_enter func212,ntmps212;go_wp2;exact xg7):G:=h
theorem xhy (h:G:=by
 go_enter func277,ntmps277;go_wp2;exact xg7):G:=h
theorem xhz (h:G:=by
 unfold eqGuard;cases op<;>rfl):G:=h
theorem xf6 (h:G:=by
 refine b_r (Ae rfl rfl (hm.row 2 rfl) (A0S _)) rfl ?_;exact xc9):G:=h
theorem xgp (h:G:=by
 exact ⟨⟨_,rfl,World.ownsRow_nil _ _ _ _⟩,hm1.below⟩):G:=h
theorem xh0 (h:G:=by
 rw [decide_eq_false (fun h=>hc h.2)];clear hd hc;exact xad):G:=h
theorem xh1 (h:G:=by
 have HS:=h_ hs;clear hs;have HE:=h_ he;clear he;exact xbu):G:=h
theorem xh2 (h:G:=by
 clear hm;intro w hm
 try simp only [puts,s2,List.set,List.eraseIdx,s3] at hm
 refine ⟨But _ _ _ _,fun _ h=>h,But.mk hm,?_⟩
 try simp only [Act.put,s3]
 iterate 2 refine kq ?_
 refine Ba ?_;go_simp
 go_wp2_with fail
 (refine b_r (Ae rfl rfl (hm.row 0 rfl) (ag rfl)) rfl ?_)
 exact xg6):G:=h
theorem xh3 (h:G:=by
 have b3:¬ (k:Int) < 0:=by omega
 have b4:¬ (30:Int) < k:=by omega
 have hp:=KF k hk;have w1:wrap64 (2 * 2 ^ k:Int)=2 * 2 ^ k:=w64 (by omega);have w2:wrap64 (n+2 * 2 ^ k)=n+2 * 2 ^ k:=w64 (by omega);clear hp;exact xhn):G:=h
theorem xh4 (h:G:=by
 have b3:¬ (k:Int) < 0:=by omega
 have b4:¬ (30:Int) < k:=by omega
 have hp:=KF k hk;have w1:wrap64 (2 ^ k:Int)=2 ^ k:=w64 (by omega);have w2:wrap64 (n+2 ^ k)=n+2 ^ k:=w64 (by omega);clear hp;exact xhn):G:=h
theorem xh5 (h:G:=by
 go_wp2_with (first
  |(with_reducible first|(refine wl 3 0 hm ?_)|(refine wb hm ?_;clear hm;intro w g hm)))
 go_ret;exact xg6):G:=h
theorem xge (h:G:=by
 have r2:decide (c < 128)=true:=decide_eq_true k2;exact xh7):G:=h
theorem xh6 (h:G:=by
 have hm:=Own.nil w
 go_wp2_with fail
 go_ret2
 exact xg6):G:=h
theorem xh7 (h:G:=by
 have r3:decide (0 < n)=false:=decide_eq_false k3;exact xfr):G:=h
end
def zeros:I_:=List.replicate 256 0
theorem DK:zeros.length=256:=l_r ..
def Jh (k:Nat):I_:=(List.range 256).map (fun (i:Nat)=>if i < k then (i:Int) else 0)
def new:I_:=Jh 256
theorem Vt (k:Nat):(Jh k).length=256:=by rw [Jh,List.length_map,List.length_range]
theorem FW:new.length=256:=Vt 256
theorem dI (k:Nat):(Jh k).set k k=Jh (k+1):=by
 apply List.ext_getElem?;intro i;simp only [Jh,List.getElem?_set,List.getElem?_map,List.length_map,List.length_range];exact xb4
def front (l:I_) (k:Nat):I_:=gi l k::l.eraseIdx k
theorem mY (l:I_) (k:Nat) (h:k < l.length):(front l k).length=l.length:=by
 simp [front,List.length_eraseIdx,h];omega
def sh (l:I_) (k i:Nat):I_:=l.take (i+1)++((l.take k).drop i++l.drop (k+1))
theorem A2g (l:I_) (k i:Nat) (h:k < l.length) (hi:i<=k):(sh l k i).length=l.length:=by
 simp [sh];omega
theorem A1P (l:I_) (k:Nat) (h:k < l.length):(sh l k 0).set 0 (gi l k)=front l k:=by
 cases l with
|nil=>simp at h
|cons a l =>
  simp [sh,front,List.eraseIdx_eq_take_drop_succ]
theorem zO (l:I_) (k:Nat) (h:k < l.length):sh l k 0=l.take 1++l.take k++l.drop (1+(l.take k).length):=by
 simp [sh,Nat.min_eq_left (Nat.le_of_lt h),Nat.add_comm]
def Ie (l:I_) (p:Int):I_:=if 0<=p/\p < 256 then front l p.toNat else l
def takeC (l:I_) (p:Int):Int:=if 0<=p/\p < 256 then gi l p.toNat else 0
def takeB (p:Int):Bool:=decide (0<=p/\p < 256)
theorem Vs (l:I_) (p:Int) (h:l.length=256):(Ie l p).length=256:=by
 unfold Ie;split
 ·rw [mY]
  ·exact h
  ·omega
 ·exact h
def pos (l:I_) (c:Int):Int:=if l.findIdx (· == c) < l.length then (l.findIdx (· == c):Int) else -1
def one (k:Nat):I_:=(List.range 256).map (fun (i:Nat)=>if i < k then (1:Int) else 0)
def ones:I_:=one 256
theorem jm (k:Nat):(one k).length=256:=by rw [one,List.length_map,List.length_range]
theorem one_step (k:Nat):(one k).set k 1=one (k+1):=by
 apply List.ext_getElem?;intro i;simp only [one,List.getElem?_set,List.getElem?_map,List.length_map,List.length_range];exact xb4
def Ew (l:I_) (k:Nat):I_:=(List.range 256).map (fun (i:Nat)=>if (l.take k).contains (i:Int) then (1:Int) else 0)
theorem dN (l:I_) (k:Nat):(Ew l k).length=256:=by rw [Ew,List.length_map,List.length_range]
theorem Y2 (l:I_) (k:Nat) (hk:k < l.length) (hb:0<=gi l k):(Ew l k).set (gi l k).toNat 1=Ew l (k+1):=by
 have e:l.take (k+1)=l.take k++[gi l k]:=by
  rw [List.take_succ_eq_append_getElem hk];simp [gi,List.getD_eq_getElem?_getD,l_e hk]
 apply List.ext_getElem?;intro i;simp only [Ew,e,List.getElem?_set,List.getElem?_map,List.length_map,List.length_range];by_cases h2:i < 256
 ·rw [List.getElem?_range h2];by_cases h:(gi l k).toNat=i
  ·rw [if_pos h,if_pos (by omega)];have:(i:Int)=gi l k:=by omega
   simp [this]
  ·rw [if_neg h];have:¬ (i:Int)=gi l k:=by omega
   simp [this]
 ·rw [List.getElem?_eq_none (show (List.range 256).length<=i by rw [List.length_range];omega)];split
  ·rw [if_neg (by omega)];rfl
  ·rfl
def vld (l:I_):Bool:=Ew l 256 == ones
end Go.Proofs.YtkpbhdhkdonghaaGreat
