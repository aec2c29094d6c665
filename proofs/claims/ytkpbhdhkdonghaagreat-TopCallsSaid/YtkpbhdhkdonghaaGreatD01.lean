/-
  Part 1 of the proof.
-/
import Derived.WalkKit
import Derived.WalkSpells
import Derived.ChangeKeysEq
import Derived.StillTail
set_option linter.all false
namespace Go.Proofs.YtkpbhdhkdonghaaGreat
open Go Go.RowKit
abbrev A_:=Array Value
abbrev L_:=List Value
abbrev I_:=List Int
abbrev N_:=List Nat
abbrev P_:=Act -> World -> Prop
abbrev O_:=Array Oper
abbrev Q_:=List Oper
abbrev n_q:=@Nat.eq_of_beq_eq_true
abbrev n_l:=@Nat.le_of_ble_eq_true
abbrev r_o:=@Result.andThen_ok
abbrev b_t:=@Bool.and_eq_true
abbrev s_b:=@Sem.run_bind
abbrev b_r:=@bodyPost_ret
abbrev l_a:=@List.append_assoc
abbrev l_g:=@List.getElem?_eq_some_iff
abbrev a_g:=@Array.getElem?_toList
abbrev r_u:=@run_underlying
abbrev s_p:=@Sem.run_pure
abbrev l_e:=@List.getElem?_eq_getElem
abbrev l_t:=@List.all_eq_true
abbrev l_r:=@List.length_replicate
abbrev l_m:=@List.mem_of_getElem?
abbrev a_e:=@Array.getElem?_eq_some_iff
abbrev l_y:=@List.map_toArray
theorem s2 {α:Type}:(∀ (a:α) (l m:List α),a::l++m=a::(l++m))/\(∀ l:List α,[]++l=l):=⟨fun _ _ _=>rfl,fun _=>rfl⟩
theorem s3 {α:Type}:(∀ (l:List α) (i:Nat) (a:α),l.toArray.setIfInBounds i a=(l.set i a).toArray)/\(∀ (x a:α) (l:List α),(x::l).set 0 a=a::l)/\(∀ (x a:α) (n:Nat) (l:List α),(x::l).set (n+1) a=x::l.set n a):=⟨by simp,by simp,by simp⟩
theorem h_ {p:Prop} (h:p):Hid p:=h
theorem i_6 {n:Int} (h:-9223372036854775808<=n/\n<=9223372036854775807:=by omega):IntKind.i64.wrap n=n:=IntWalk.i64_in n h
theorem d_f {p:Prop} [Decidable p] (h:¬p:=by omega):decide p=false:=decide_eq_false h
theorem d_t {p:Prop} [Decidable p] (h:p:=by omega):decide p=true:=decide_eq_true h
theorem c_z {p q:Prop} (h:p) (e:p=q:=by with_unfolding_all rfl):q:=e ▸ h
abbrev Rws:=List (Nat × A_)
variable {cs cs2 ns tmps:A_} {k:IntKind} {l m:I_} {cap dCap dLen g gs len n off off' os sCap sLen:Nat} {x y:Operand} {hi lo:Option Operand} {e elem t t' ty:TypeId} {i:TypeInfo} {w':World}
def AA (w:World) (g:Nat) (cs:A_):Prop:=∃ t,w.heap[g]?=some (.cells cs t (0,0))
theorem AA.lt {w:World} (h:AA w g cs):g < w.heap.size:=by
 obtain ⟨t,h⟩:=h;exact (Array.getElem?_eq_some_iff.1 h).1
theorem AA.cell {w:World} {g:Nat} {cs:A_} (h:AA w g cs) (i:Nat):w.cell? ⟨g,i,none⟩=cs[i]?:=by
 obtain ⟨t,h⟩:=h;exact cell_of_row w g i cs t (0,0) h
theorem AA.free {w:World} (h:AA w g cs) (i:Nat):w.frozen? ⟨g,i,none⟩=false:=by
 obtain ⟨t,h⟩:=h;exact frozen_of_row w g i cs t h
theorem AA.new (w:World) (cs:A_) (t:TypeId):AA (w.alloc (.cells cs t)) w.heap.size cs:=⟨t,heap_alloc_new w _⟩
theorem AA.of_block {w:World} (h:AA w g cs) (e:w'.heap[g]?=w.heap[g]?):AA w' g cs:=by
 obtain ⟨t,h⟩:=h;exact ⟨t,e.trans h⟩
theorem AA.setRow {w:World} {g:Nat} {cs:A_} (h:AA w g cs) (vs:A_):AA (w.setRow g vs) g vs:=by
 obtain ⟨t,h⟩:=h;exact ⟨t,setRow_heap w g cs vs t _ h⟩
theorem AA.setCell {w:World} {g:Nat} {cs:A_} (h:AA w g cs) (i:Nat) (v:Value):AA (w.setCell ⟨g,i,none⟩ v) g (cs.setIfInBounds i v):=by
 obtain ⟨t,h⟩:=h;exact ⟨t,heap_setCell_same w g i cs t v h⟩
structure Mem (w0 w:World) (rs:Rws):Prop where
 below:Below w0.heap.size w0 w
 own:∀ p ∈ rs,w0.heap.size<=p.1
 rows:∀ p ∈ rs,AA w p.1 p.2
 apart:(rs.map (·.1)).Nodup
theorem Mem.nil (w:World):Mem w w []:=⟨Below.refl _ _,by simp,by simp,by simp⟩
theorem Mem.get {w0 w:World} {rs:Rws} (h:Mem w0 w rs) (i:Nat) (hi:rs[i]?=some (g,cs)):AA w g cs :=
 h.rows (g,cs) (l_m hi)
theorem Mem.alloc {w0 w:World} {rs:Rws} (h:Mem w0 w rs) (cs:A_) (t:TypeId):Mem w0 (w.alloc (.cells cs t)) ((w.heap.size,cs)::rs):=by
 refine ⟨h.below.alloc h.below.size _,?_,?_,?_⟩
 ·intro p hp;rcases List.mem_cons.1 hp with rfl|hp
  ·exact h.below.size
  ·exact h.own p hp
 ·intro p hp;rcases List.mem_cons.1 hp with rfl|hp
  ·exact AA.new w cs t
  ·exact (h.rows p hp).of_block (Below.heap_alloc w _ _ (h.rows p hp).lt)
 ·simp only [List.map_cons,List.nodup_cons];refine ⟨?_,h.apart⟩;intro hm;obtain ⟨p,hp,e⟩:=List.mem_map.1 hm;have:=(h.rows p hp).lt;omega
theorem Mem.PV {w0 w:World} {rs:Rws} (h:Mem w0 w rs) (o:Obj):Mem w0 (w.alloc o) rs :=
 ⟨h.below.alloc h.below.size _,h.own,fun p hp=>(h.rows p hp).of_block (Below.heap_alloc w _ _ (h.rows p hp).lt),h.apart⟩
theorem Mem.drawn {w0 w:World} {rs:Rws} (h:Mem w0 w rs) (n:Nat):Mem w0 { w with drawn:=n } rs :=
 ⟨⟨h.below.os,h.below.tape,h.below.output,h.below.size,h.below.block⟩,h.own,fun p hp=>(h.rows p hp).of_block rfl,h.apart⟩
theorem Mem.call {w0 w:World} {rs:Rws} (h:Mem w0 w rs) (hb:Below w.heap.size w w'):Mem w0 w' rs :=
 ⟨h.below.trans (hb.mono h.below.size),h.own,fun p hp=>(h.rows p hp).of_block (hb.block _ (h.rows p hp).lt),h.apart⟩
theorem Mem.grown {w0 w w':World} {rs:Rws} (h:Mem w0 w rs) {row:Option Nat} (hg:w.grownBy w' row) (hr:∀ k,row=some k->w0.heap.size<=k) (hn:∀ k,row=some k->k ∉ rs.map (·.1)):Mem w0 w' rs :=
 ⟨h.below.grown hg h.below.size hr,h.own,fun p hp=>(h.rows p hp).of_block (hg.block _ (h.rows p hp).lt (fun e=>hn _ e.symm (List.mem_map.2 ⟨p,hp,rfl⟩))),h.apart⟩
theorem KI {α β:Type}:∀ (rs:List (α × β)) (i:Nat) (g:α) (c c':β),rs[i]?=some (g,c)->(rs.set i (g,c')).map (·.1)=rs.map (·.1)
|[],_,_,_,_,h=>by simp at h
|r::rs,0,g,c,c',h=>by simp at h;subst h;simp
|r::rs,i+1,g,c,c',h=>by simp at h;simp [KI rs i g c c' h]
theorem Gl {α:Type}:∀ (l:List α) (i:Nat) (x y:α),y ∈ l.set i x->y=x\/∃ j,j ≠ i/\l[j]?=some y
|[],_,_,_,h=>by simp at h
|a::l,0,x,y,h=>by
  simp at h;rcases h with rfl|h
  ·exact .inl rfl
  ·obtain ⟨j,hj,e⟩:=List.getElem_of_mem h;exact .inr ⟨j+1,by omega,by simp [l_e hj,e]⟩
|a::l,i+1,x,y,h=>by
  simp at h;rcases h with rfl|h
  ·exact .inr ⟨0,by omega,by simp⟩
  ·rcases Gl l i x y h with h|⟨j,hj,e⟩
   ·exact .inl h
   ·exact .inr ⟨j+1,by omega,by simpa using e⟩
theorem X8 {α β:Type} (rs:List (α × β)) (hn:(rs.map (·.1)).Nodup) (i j:Nat) (p q:α × β) (hi:rs[i]?=some p) (hj:rs[j]?=some q) (hij:j ≠ i):q.1 ≠ p.1:=by
 intro e;have h1:(rs.map (·.1))[i]?=some p.1:=by simp [hi]
 have h2:(rs.map (·.1))[j]?=some p.1:=by simp [hj,e]
 obtain ⟨a1,a2⟩:=List.getElem?_eq_some_iff.1 h1;obtain ⟨b1,b2⟩:=List.getElem?_eq_some_iff.1 h2;have hp:=List.pairwise_iff_getElem.1 hn;rcases Nat.lt_or_gt_of_ne hij with hlt|hlt
 ·exact hp j i b1 a1 hlt (b2.trans a2.symm)
 ·exact hp i j a1 b1 hlt (a2.trans b2.symm)
theorem Mem.put {w0 w:World} {rs:Rws} (h:Mem w0 w rs) (i:Nat) {vs:A_} (hi:rs[i]?=some (g,cs)) (hr:AA w' g vs) (hg:w.grownBy w' (some g)):Mem w0 w' (rs.set i (g,vs)):=by
 have hm:(g,cs) ∈ rs:=l_m hi;refine ⟨h.below.grown hg h.below.size (fun k e=>by cases e;exact h.own _ hm),?_,?_,?_⟩
 ·intro p hp;rcases Gl _ _ _ _ hp with e|⟨j,hj,e⟩
  ·rw [e];show w0.heap.size<=g;exact h.own (g,cs) hm
  ·exact h.own _ (l_m e)
 ·intro p hp;rcases Gl _ _ _ _ hp with rfl|⟨j,hj,e⟩
  ·exact hr
  ·have hpm:=l_m e;have hne:p.1 ≠ g:=X8 rs h.apart i j _ _ hi e hj;exact (h.rows p hpm).of_block (hg.block _ (h.rows p hpm).lt (fun e=>hne (by cases e;rfl)))
 ·rw [KI rs i g cs vs hi];exact h.apart
theorem EC (w:World) (g:Nat) (cs:A_):w.grownBy (w.setRow g cs) (some g) :=
 ⟨rfl,rfl,rfl,by simp,fun k _ hk=>setRow_other w g k cs (fun e=>hk (by rw [e]))⟩
theorem grownBy_setCell (w:World) (g i:Nat) (v:Value):w.grownBy (w.setCell ⟨g,i,none⟩ v) (some g) :=
 ⟨rfl,rfl,rfl,by simp [World.setCell],fun k _ hk=>heap_setCell_other w _ k v (fun e=>hk (by rw [e]))⟩
theorem Mem.setRow {w0 w:World} {rs:Rws} (h:Mem w0 w rs) (i:Nat) {g:Nat} {cs:A_} (vs:A_) (hi:rs[i]?=some (g,cs)):Mem w0 (w.setRow g vs) (rs.set i (g,vs)) :=
 h.put i hi ((h.get i hi).setRow vs) (EC w g vs)
theorem Mem.setCell {w0 w:World} {rs:Rws} (h:Mem w0 w rs) (i:Nat) {g:Nat} {cs:A_} (k:Nat) (v:Value) (hi:rs[i]?=some (g,cs)):Mem w0 (w.setCell ⟨g,k,none⟩ v) (rs.set i (g,cs.setIfInBounds k v)) :=
 h.put i hi ((h.get i hi).setCell k v) (grownBy_setCell w g k v)
structure Aq (P:Program) (ty:TypeId) (n:Nat):Prop where
 agg:∀ w,(isAgg ty).run P w=.ok true w
 size:(P.info? ty).map (·.size)=some n
theorem Aq.mk' {P:Program} {d:TypeDesc} (hu:P.underlying ty=some d) (hd:(match d with|.struct _|.array _ _=>true|_=>false)=true) (hs:(P.info? ty).map (·.size)=some n):Aq P ty n:=by
 refine ⟨fun w=>?_,hs⟩;unfold isAgg;rw [s_b,r_u hu w];cases d<;>simp_all
def splice (cs:A_) (off:Nat) (vs:A_):A_:=(cs.toList.take off++vs.toList++cs.toList.drop (off+vs.size)).toArray
theorem GI (cs vs:A_) (h:vs.size=cs.size):splice cs 0 vs=vs:=by
 have:cs.toList.drop vs.size=[]:=List.drop_of_length_le (by simp;omega);simp [splice,this]
variable {P:Program}
theorem Jd {w:World} (hr:AA w g cs) (ht:Aq P ty n) (hf:off+n<=cs.size) :
  (loadVar ty ⟨g,off,none⟩).run P w=.ok (.agg (cs.extract off (off+n))) w:=by
 have hlen:(cs.extract off (off+n)).toList.length=n:=by simp;omega
 have hl:(loadCells ⟨g,off,none⟩ (cs.extract off (off+n)).toList.length).run P w=.ok (cs.extract off (off+n)).toList.toArray w :=
  run_loadCells_list (P:=P) w ⟨g,off,none⟩ (cs.extract off (off+n)).toList (fun j v hv=>by
   rw [Addr.add_lit,hr.cell (off+j)];simp only [a_g,Array.getElem?_extract] at hv;split at hv
   ·exact hv
   ·cases hv)
 rw [hlen] at hl;cases hq:P.info? ty with
|none=>have:=ht.size;simp [hq] at this
|some i =>
  have hs:i.size=n:=by have:=ht.size;simpa [hq] using this
  simp only [Array.toArray_toList] at hl;simp [loadVar,s_b,ht.agg,sizeOf,typeInfo,hq,hs,hl]
theorem NT {w:World} {vs:A_} (hr:AA w g cs) (ht:Aq P ty n) (hv:vs.size=n) (hf:off+n<=cs.size) (h1:∀ v ∈ vs,v.oneCell'=true) :
  (storeVar ty ⟨g,off,none⟩ (.agg vs)).run P w=.ok () (w.setRow g (splice cs off vs)):=by
 obtain ⟨t,hr⟩:=hr;have hst:=run_storeCells_at P g off t vs.toList 0 cs w hr (by simp;omega) (fun v hv=>h1 v (by simpa using hv));simp only [Nat.add_zero,Array.length_toList] at hst;cases hq:P.info? ty with
|none=>have:=ht.size;simp [hq] at this
|some i =>
  have hs:i.size=n:=by have:=ht.size;simpa [hq] using this
  simp [storeVar,sizeOf,typeInfo,hq,Value.cells,hs,hv,hst,splice]
theorem A8 {ops:O_} {rest:Q_} {o:Oper} {a:Act} {w:World} {Q:Exit->P_} {v:Value} (hg:Region.wanted o (yielded ops a.tmps)=true)
  (hrun:(execOp a.eval o).run P w=.ok (.value v) w') (h:wpList P ops Q rest (a.put o.dst v) w'):wpList P ops Q (o::rest) a w :=
 wpList_step fun _ hK=>by rw [if_pos hg];unfold Oper.wp;rw [hrun];exact hK _ _ h
theorem FN {ops:O_} {rest:Q_} {o:Oper} {a:Act} {w:World} {Q:Exit->P_} (hg:Region.wanted o (yielded ops a.tmps)=true)
  (hrun:(execOp a.eval o).run P w=.ok .skip w') (h:wpList P ops Q rest (a.put o.dst undef) w'):wpList P ops Q (o::rest) a w :=
 wpList_step fun _ hK=>by rw [if_pos hg];unfold Oper.wp;rw [hrun];exact hK _ _ h
theorem IQ {ops:O_} {rest:Q_} {o:Oper} {a:Act} {w:World} {Q:Act->Prop} {v:Value} (hg:Region.wanted o (yielded ops a.tmps)=true)
  (hrun:(execOp a.eval o).run P w=.ok (.value v) w) (h:wpStill P ops w Q rest (a.put o.dst v)):wpStill P ops w Q (o::rest) a:=by
 refine wpStill_step fun K hK=>?_;rw [if_pos hg];unfold Oper.still;rw [hrun];exact ⟨rfl,hK _ h⟩
theorem Gp {o:Oper} {a:Act} {w:World} (ho:o.op=.load ty x) (hx:a.eval x=.pointer (some ⟨g,off,none⟩)) 
  (hr:AA w g cs) (ht:Aq P ty n) (hf:off+n<=cs.size):(execOp a.eval o).run P w=.ok (.value (.agg (cs.extract off (off+n)))) w:=by
 unfold execOp;simp only [ho,hx,Instr.loadAt,Instr.sureAddr,s_b,s_p,r_o,Jd hr ht hf]
theorem Gn {o:Oper} {a:Act} {w:World} (ho:o.op=.store ty x y) (hx:a.eval x=.pointer (some ⟨g,off,none⟩)) {vs:A_} (hy:a.eval y=.agg vs) 
  (hr:AA w g cs) (ht:Aq P ty n) (hv:vs.size=n) (hf:off+n<=cs.size) (h1:∀ v ∈ vs,v.oneCell'=true):(execOp a.eval o).run P w=.ok .skip (w.setRow g (splice cs off vs)):=by
 unfold execOp;simp only [ho,hx,hy,Instr.storeAt,Instr.sureAddr,s_b,s_p,r_o,NT hr ht hv hf h1]
theorem Ec {w:World} (hr:AA w g cs) (ht:Aq P ty cs.size):(loadVar ty ⟨g,0,none⟩).run P w=.ok (.agg cs) w:=by
 have h:=Jd (P:=P) (off:=0) hr ht (by omega);simpa using h
theorem AQ {fn:Func} {p:Tmp} (h:fn.results=#[.cell p ty]) {w:World} 
  (hp:tmps.getD p undef=.pointer (some ⟨g,0,none⟩)) (hr:AA w g cs) (ht:Aq P ty cs.size):(results fn tmps).run P w=.ok (.agg cs) w:=by
 have hp':tmps[p]?.getD undef=.pointer (some ⟨g,0,none⟩):=by simpa using hp
 simp [results,h,hp',asAddr,Ec hr ht]
theorem Af {fn:Func} {p t:Tmp} (h:fn.results=#[.cell p ty,.tmp t]) {w:World} 
  (hp:tmps.getD p undef=.pointer (some ⟨g,0,none⟩)) (hr:AA w g cs) (ht:Aq P ty cs.size):(results fn tmps).run P w=.ok (.tuple #[.agg cs,tmps.getD t undef]) w:=by
 have hp':tmps[p]?.getD undef=.pointer (some ⟨g,0,none⟩):=by simpa using hp
 simp [results,h,hp',asAddr,Ec hr ht]
theorem Ae {fn:Func} {p t u:Tmp} (h:fn.results=#[.cell p ty,.tmp t,.tmp u]) {w:World} 
  (hp:tmps.getD p undef=.pointer (some ⟨g,0,none⟩)) (hr:AA w g cs) (ht:Aq P ty cs.size):(results fn tmps).run P w=.ok (.tuple #[.agg cs,tmps.getD t undef,tmps.getD u undef]) w:=by
 have hp':tmps[p]?.getD undef=.pointer (some ⟨g,0,none⟩):=by simpa using hp
 simp [results,h,hp',asAddr,Ec hr ht]
theorem EJ {fn:Func} {p t u v:Tmp} (h:fn.results=#[.cell p ty,.tmp t,.tmp u,.tmp v]) {w:World} 
  (hp:tmps.getD p undef=.pointer (some ⟨g,0,none⟩)) (hr:AA w g cs) (ht:Aq P ty cs.size):(results fn tmps).run P w=.ok (.tuple #[.agg cs,tmps.getD t undef,tmps.getD u undef,tmps.getD v undef]) w:=by
 have hp':tmps[p]?.getD undef=.pointer (some ⟨g,0,none⟩):=by simpa using hp
 simp [results,h,hp',asAddr,Ec hr ht]
def gi (l:I_) (i:Nat):Int:=l.getD i 0
def vs (k:IntKind) (l:I_):L_:=l.map (Value.int k)
def B (l:I_):A_:=(vs .u8 l).toArray
def I (l:I_):A_:=(vs .i64 l).toArray
theorem Ai (k:IntKind) (l:I_):(vs k l).length=l.length:=by simp [vs]
theorem Ih (l:I_):(B l).size=l.length:=by simp [B,vs]
theorem bC (l:I_):(I l).size=l.length:=by simp [I,vs]
theorem Ic (k:IntKind) (l:I_):∀ v ∈ vs k l,v.oneCell'=true:=by
 intro v hv;obtain ⟨n,_,rfl⟩:=List.mem_map.1 hv;rfl
theorem Ut (l:I_):∀ v ∈ B l,v.oneCell'=true:=by
 intro v hv;exact Ic .u8 l v (by simpa [B] using hv)
theorem I_one (l:I_):∀ v ∈ I l,v.oneCell'=true:=by
 intro v hv;exact Ic .i64 l v (by simpa [I] using hv)
theorem Fg (k:IntKind) (l:I_) (i:Nat) (h:i < l.length):(vs k l)[i]?=some (.int k (gi l i)):=by simp [vs,gi,h,List.getD]
theorem Zd (l:I_) (i:Nat) (h:i < l.length):(B l)[i]?=some (.int .u8 (gi l i)):=by simpa [B] using Fg .u8 l i h
theorem A1c (l:I_) (i:Nat) (x:Int):(B l).setIfInBounds i (.int .u8 x)=B (l.set i x):=by
 apply Array.ext';simp [B,vs,List.map_set]
theorem A1b (l:I_) (i:Nat) (x:Int):(I l).setIfInBounds i (.int .i64 x)=I (l.set i x):=by
 apply Array.ext';simp [I,vs,List.map_set]
theorem Je {w:World} (d:Nat) {e:TypeId} {k:IntKind} (he:P.underlying e=some (.int k)):∀ (is:N_) (l m:I_),(∀ i ∈ is,i < l.length/\i < m.length) ->
  (Op.eqItems (d+1) e 1 (vs k l).toArray (vs k m).toArray is).run P w=.ok (is.all fun i=>gi l i == gi m i) w
|[],_,_,_=>by simp [Op.eqItems]
|i::is,l,m,h=>by
  obtain ⟨h1,h2⟩:=h i (by simp);have ih:=Je (w:=w) d he is l m (fun j hj=>h j (by simp [hj]))
  have pl:(part e (vs k l).toArray (i * 1)).run P w=.ok (.int k (gi l i)) w:=by
   have:=Fg k l i h1;simp [part,isAgg,r_u he,this]
  have pm:(part e (vs k m).toArray (i * 1)).run P w=.ok (.int k (gi m i)) w:=by
   have:=Fg k m i h2;simp [part,isAgg,r_u he,this]
  simp only [Op.eqItems,s_b,pl,pm,run_equalIn_int w d e k k _ _ he,r_o,List.all_cons];cases hb:(gi l i == gi m i)
  ·simp
  ·simpa using ih
theorem Qw:∀ (l m:I_),l.length=m.length->((List.range l.length).all fun i=>gi l i == gi m i)=(l == m)
|[],[],_=>rfl
|x::xs,y::ys,h=>by
  have ih:=Qw xs ys (by simpa using h);rw [List.length_cons,List.range_succ_eq_map,List.all_cons,List.all_map];simp only [gi] at ih ⊢;simp only [List.getD_cons_zero,Function.comp_def,List.getD_cons_succ,ih];simp [List.cons_beq_cons]
|[],_::_,h=>by simp at h
|_::_,[],h=>by simp at h
theorem Gj {w:World} (d:Nat) (hu:P.underlying t=some (.array n e)) (he:P.underlying e=some (.int k)) (hi:P.info? e=some i) (hc:P.cellsOf e=1)
  (l m:I_) (hl:l.length=n) (hm:m.length=n):(Op.equalIn (d+2) t (.agg (vs k l).toArray) (.agg (vs k m).toArray)).run P w=.ok (l == m) w:=by
 rw [show d+2=(d+1)+1 from rfl,run_equalIn_array w (d+1) _ _ hu hi,hc,Je d he (List.range n) l m (fun j hj=>by have:=List.mem_range.1 hj;omega),<- Qw l m (by omega),hl]
theorem WM {w:World} (hu:P.underlying t=some (.array n e)) (he:P.underlying e=some (.int k)) (hi:P.info? e=some i) (hc:P.cellsOf e=1)
  (l m:I_) (hl:l.length=n) (hm:m.length=n):(binOp .eql t (.agg (vs k l).toArray) (.agg (vs k m).toArray)).run P w=.ok (.bool (l == m)) w:=by
 rw [run_eql_struct,Gj 9998 hu he hi hc l m hl hm];rfl
section steps
variable {ops:O_} {rest:Q_} {o:Oper} {a:Act} {w0 w:World} {Q:Exit->P_} {rs:Rws}
theorem Ho (hm:Mem w0 w rs) (hgd:Region.wanted o (yielded ops a.tmps)=true) (ho:o.op=.box ty x) (hx:a.eval x=.agg cs)
  (h:∀ w' g,Mem w0 w' ((g,cs)::rs)->wpList P ops Q rest (a.put o.dst (.pointer (some ⟨g,0,none⟩))) w'):wpList P ops Q (o::rest) a w:=by
 have hrun:(execOp a.eval o).run P w=.ok (.value (.pointer (some ⟨w.heap.size,0,none⟩))) (w.alloc (.cells cs ty)):=by
  unfold execOp;simp only [ho,hx,Instr.box,newVar,newRow,Value.cells,s_b,s_p];rfl
 exact A8 hgd hrun (h _ _ (hm.alloc cs ty))
theorem DF (hm:Mem w0 w rs) (hgd:Region.wanted o (yielded ops a.tmps)=true) (ho:o.op=.alloc ty) (hz:∀ w,(zeroValue ty).run P w=.ok (.agg cs) w)
  (h:∀ w' g,Mem w0 w' ((g,cs)::rs)->wpList P ops Q rest (a.put o.dst (.pointer (some ⟨g,0,none⟩))) w'):wpList P ops Q (o::rest) a w:=by
 have hrun:(execOp a.eval o).run P w=.ok (.value (.pointer (some ⟨w.heap.size,0,none⟩))) (w.alloc (.cells cs ty)):=by
  unfold execOp;simp only [ho,Instr.alloc,newVar,newRow,Value.cells,s_b,s_p,hz,r_o];rfl
 exact A8 hgd hrun (h _ _ (hm.alloc cs ty))
theorem Ag (hgd:Region.wanted o (yielded ops a.tmps)=true) (ho:o.op=.load ty x) (hx:a.eval x=.pointer (some ⟨g,0,none⟩)) 
  (hr:AA w g cs) (ht:Aq P ty cs.size) (h:wpList P ops Q rest (a.put o.dst (.agg cs)) w):wpList P ops Q (o::rest) a w:=by
 have hrun:=Gp (P:=P) (off:=0) ho hx hr ht (by omega);rw [show cs.extract 0 (0+cs.size)=cs by simp] at hrun;exact A8 hgd hrun h
theorem P5 {Q:Act->Prop} (hgd:Region.wanted o (yielded ops a.tmps)=true) (ho:o.op=.load ty x) (hx:a.eval x=.pointer (some ⟨g,0,none⟩)) 
  (hr:AA w g cs) (ht:Aq P ty cs.size) (h:wpStill P ops w Q rest (a.put o.dst (.agg cs))):wpStill P ops w Q (o::rest) a:=by
 have hrun:=Gp (P:=P) (off:=0) ho hx hr ht (by omega);rw [show cs.extract 0 (0+cs.size)=cs by simp] at hrun;exact IQ hgd hrun h
theorem Bd (hgd:Region.wanted o (yielded ops a.tmps)=true) (ho:o.op=.load ty x) (hx:a.eval x=.pointer (some ⟨g,off,none⟩)) {vs:A_}
  (hr:AA w g cs) (ht:Aq P ty vs.size) (hv:cs.extract off (off+vs.size)=vs) (hf:off+vs.size<=cs.size) (h:wpList P ops Q rest (a.put o.dst (.agg vs)) w):wpList P ops Q (o::rest) a w:=by
 have hrun:=Gp (P:=P) (off:=off) ho hx hr ht hf;rw [hv] at hrun;exact A8 hgd hrun h
theorem DC (i:Nat) (hm:Mem w0 w rs) (hgd:Region.wanted o (yielded ops a.tmps)=true) (ho:o.op=.store ty x y) (hx:a.eval x=.pointer (some ⟨g,0,none⟩)) {vs:A_} (hy:a.eval y=.agg vs)
  (hi:rs[i]?=some (g,cs)) (ht:Aq P ty vs.size) (hs:vs.size=cs.size) (h1:∀ v ∈ vs,v.oneCell'=true)
  (h:∀ w',Mem w0 w' (rs.set i (g,vs))->wpList P ops Q rest (a.put o.dst undef) w'):wpList P ops Q (o::rest) a w:=by
 have hrun:=Gn (P:=P) (off:=0) ho hx hy (hm.get i hi) ht rfl (by omega) h1;rw [GI cs vs hs] at hrun;exact FN hgd hrun (h _ (hm.setRow i vs hi))
def ET (P:Program) (ty:TypeId):Prop:=(∀ w,(isAgg ty).run P w=.ok false w)/\(P.info? ty).map (·.size)=some 1
theorem MJ (ho:o.op=.load ty x) (hx:a.eval x=.pointer (some ⟨g,off,none⟩)) {v:Value}
  (ht:ET P ty) (hc:w.cell? ⟨g,off,none⟩=some v):(execOp a.eval o).run P w=.ok (.value v) w:=by
 unfold execOp;simp only [ho,hx,Instr.loadAt,Instr.sureAddr,s_b,s_p,r_o,loadVar,ht.1,Bool.false_eq_true,if_false,run_load,hc]
theorem OZ {Q:Act->Prop} (hgd:Region.wanted o (yielded ops a.tmps)=true) (ho:o.op=.load ty x) (hx:a.eval x=.pointer (some ⟨g,off,none⟩)) {v:Value}
  (hr:AA w g cs) (ht:ET P ty) (hv:cs[off]?=some v) (h:wpStill P ops w Q rest (a.put o.dst v)):wpStill P ops w Q (o::rest) a :=
 IQ hgd (MJ ho hx ht ((hr.cell off).trans hv)) h
theorem DW (i:Nat) (hm:Mem w0 w rs) (hgd:Region.wanted o (yielded ops a.tmps)=true) (ho:o.op=.store ty x y) (hx:a.eval x=.pointer (some ⟨g,off,none⟩)) {v:Value} (hy:a.eval y=v) 
  (hi:rs[i]?=some (g,cs)) (ht:ET P ty) (hf:off < cs.size) (hc:v.cells=#[v]) (h1:v.oneCell'=true) (hn:cs.setIfInBounds off v=ns)
  (h:∀ w',Mem w0 w' (rs.set i (g,ns))->wpList P ops Q rest (a.put o.dst undef) w'):wpList P ops Q (o::rest) a w:=by
 have hr:=hm.get i hi;have hcell:w.cell? ⟨g,off,none⟩=some cs[off]:=by rw [hr.cell];simp [hf]
 have hst:(store ⟨g,off,none⟩ v).run P w=.ok () (w.setCell ⟨g,off,none⟩ v):=by
  rw [run_store P w _ v _ h1,hcell];simp [hr.free off]
 have hrun:(execOp a.eval o).run P w=.ok .skip (w.setCell ⟨g,off,none⟩ v):=by
  cases hq:P.info? ty with
 |none=>have:=ht.2;simp [hq] at this
 |some i =>
   have hs:i.size=1:=by have:=ht.2;simpa [hq] using this
   unfold execOp;simp only [ho,hx,hy,Instr.storeAt,Instr.sureAddr,s_b,s_p,r_o,storeVar,hc,sizeOf,typeInfo,run_program,hq,hs];simp [storeCells,Addr.add_zero',hst,Result.andThen]
 refine FN hgd hrun (h _ ?_);rw [<- hn];exact hm.setCell i off v hi
end steps
theorem rG (l m:I_) (o:Nat):splice (B l) o (B m)=B (l.take o++m++l.drop (o+m.length)):=by
 apply Array.ext';simp [splice,B,vs,List.map_take,List.map_drop]
theorem nJ (l:I_) (a b:Nat):(B l).extract a b=B ((l.take b).drop a):=by
 apply Array.ext';simp [B,vs,List.map_take,List.map_drop,List.drop_take]
theorem Uy {ops:O_} {rest:Q_} {o:Oper} {a:Act} {w0 w:World} {Q:Exit->P_} {rs:Rws} (i:Nat) (hm:Mem w0 w rs) (hgd:Region.wanted o (yielded ops a.tmps)=true) 
  (ho:o.op=.call { callee:=.builtin .copy,args:=#[x,y],argTypes:=#[t,t'] }) (hu:P.underlying t=some (.slice elem)) (hs:(P.info? elem).map (·.size)=some 1)
  (hx:a.eval x=.slice (some ⟨g,off,none⟩) dLen dCap) (hy:a.eval y=.slice (some ⟨gs,os,none⟩) sLen sCap)
  {vs:A_} (hi:rs[i]?=some (g,cs)) (hr:AA w gs cs2) (hn:vs.size=Nat.min sLen dLen) (hv:cs2.extract os (os+vs.size)=vs) (hfit:off+vs.size<=cs.size) (h1:∀ v ∈ vs,v.oneCell'=true) (hns:splice cs off vs=ns)
  (h:∀ w',Mem w0 w' (rs.set i (g,ns))->wpList P ops Q rest (a.put o.dst (.int .i64 vs.size)) w'):wpList P ops Q (o::rest) a w:=by
 obtain ⟨tt,hg⟩:=hm.get i hi
 have hsrc:∀ j v,vs.toList[j]?=some v->w.cell? ((⟨gs,os,none⟩:Addr).add j)=some v:=by
  intro j v hj;rw [Addr.add_lit,hr.cell];rw [<- hv] at hj;simp only [a_g,Array.getElem?_extract] at hj;split at hj
  ·exact hj
  ·cases hj
 have hrun:=run_copy_row P w t t' o.type elem g off dLen dCap ⟨gs,os,none⟩ sLen sCap cs tt vs.toList hu hs hg (by simpa using hn) hsrc (by simpa using hfit) (fun v hv=>h1 v (by simpa using hv));have e:(cs.toList.take off++vs.toList++cs.toList.drop (off+vs.toList.length)).toArray=ns:=by rw [<- hns];simp [splice]
 rw [e] at hrun
 have hrun':(execOp a.eval o).run P w=.ok (.value (.int .i64 vs.size)) (w.setRow g ns):=by
  unfold execOp;simp only [ho,resolve,invoke,builtin,s_b,s_p,r_o,l_y,List.map_cons,List.map_nil,hx,hy,hrun,goInt];simp
 exact A8 hgd hrun' (h _ (hm.setRow i ns hi))
def QY (v:Option Value) (d n:Nat):Prop:=(v=none/\n=d)\/∃ z:Int,v=some (.int .i64 z)/\z=n
theorem run_sliceBound {w:World} (n y:Nat) (c:BoundsCode) (h:n<=y):(Instr.sliceBound (.int .i64 n) y c).run P w=.ok n w:=by
 simp [Instr.sliceBound,asIntOf,show (n:Int)<=(y:Int) by omega,show (0:Int)<=(n:Int) by omega]
theorem QD {w:World} (b:Bool) (len cap:Nat) (lo hi:Option Value) (L H:Nat) (hl:QY lo 0 L) (hh:QY hi len H) (h1:L<=H) (h2:H<=cap) :
  (Instr.sliceBounds b len cap lo hi none).run P w=.ok (L,H,cap) w:=by
 rcases hl with ⟨rfl,rfl⟩|⟨_,rfl,rfl⟩<;>rcases hh with ⟨rfl,rfl⟩|⟨_,rfl,rfl⟩<;>simp [Instr.sliceBounds,s_b,run_sliceBound,h1,h2,Option.isSome]
theorem Iq {o:Oper} {a:Act} {w:World} (ho:o.op=.slice ty x lo hi none) {elem:Nat} (hu:P.underlying ty=some (.array n elem)) (hs:(P.info? elem).map (·.size)=some 1)
  (hx:a.eval x=.pointer (some ⟨g,off,none⟩)) (L H:Nat) (hl:QY (lo.map a.eval) 0 L) (hh:QY (hi.map a.eval) n H) (h1:L<=H) (h2:H<=n) (h3:L < n) (e1:off+L=off') (e2:H - L=len) (e3:n - L=cap) :
  (execOp a.eval o).run P w=.ok (.value (.slice (some ⟨g,off',none⟩) len cap)) w:=by
 subst e1 e2 e3;have hb:=QD (P:=P) (w:=w) false n n _ _ L H hl hh h1 h2;cases hq:P.info? elem with
|none=>simp [hq] at hs
|some i =>
  have hi':i.size=1:=by simpa [hq] using hs
  unfold execOp;simp only [ho,hx,Instr.sliceAt,s_b,r_u hu,r_o,Instr.sureAddr,s_p,Option.map_none,hb,sizeOf,typeInfo,run_program,hq,hi'];simp [show ¬ n=L by omega,Addr.add_lit]
theorem Du {o:Oper} {a:Act} {w:World} (ho:o.op=.load ty x) (hx:a.eval x=.pointer (some ⟨g,0,none⟩)) 
  (hr:AA w g cs) (ht:Aq P ty cs.size):(execOp a.eval o).run P w=.ok (.value (.agg cs)) w:=by
 have h:=Gp (P:=P) (off:=0) ho hx hr ht (by omega);rwa [show cs.extract 0 (0+cs.size)=cs by simp] at h
theorem UN {o:Oper} {a:Act} {w:World} (ho:o.op=.binOp .eql t x y t') (hx:a.eval x=.agg (vs k l).toArray) (hy:a.eval y=.agg (vs k m).toArray)
  (hgt:P.eqGuardType P.depth t=false) (hu:P.underlying t=some (.array n e)) (he:P.underlying e=some (.int k)) (hi:P.info? e=some i) (hc:P.cellsOf e=1) (hl:l.length=n) (hm:m.length=n) :
  (execOp a.eval o).run P w=.ok (.value (.bool (l == m))) w:=by
 unfold execOp;simp only [ho,hx,hy,s_b,run_eqGuard_agg w .eql t x y _ _ hgt,r_o,WM hu he hi hc l m hl hm,s_p]
theorem Aa {o:Oper} {a:Act} {w:World} (ho:o.op=.load ty x) (hx:a.eval x=.pointer (some ⟨g,off,none⟩)) {v:Value}
  (hr:AA w g cs) (ht:ET P ty) (hv:cs[off]?=some v):(execOp a.eval o).run P w=.ok (.value v) w:=MJ ho hx ht ((hr.cell off).trans hv)
theorem DZ {o:Oper} {a:Act} {w:World} {i:Nat} {v:Value} (ho:o.op=.index ty x y) (hx:a.eval x=.agg cs) (hy:a.eval y=.int k (i:Nat))
  (hu:P.underlying ty=some (.array n e)) (he:ET P e) (hi:i < n) (hv:cs[i]?=some v):(execOp a.eval o).run P w=.ok (.value v) w:=by
 cases hq:P.info? e with
|none=>have:=he.2;simp [hq] at this
|some inf =>
  have hs:inf.size=1:=by have:=he.2;simpa [hq] using this
  have hp:(part e cs i).run P w=.ok v w:=by simp [part,s_b,he.1,hv]
  unfold execOp;simp only [ho,hx,hy,Instr.index,asIntOf,s_b,s_p,r_o,r_u hu];rw [if_pos (by omega)];simp [sizeOf,typeInfo,hq,hs,hp]
def zeros:I_:=List.replicate 256 0
theorem DK:zeros.length=256:=l_r ..
def Jh (k:Nat):I_:=(List.range 256).map (fun (i:Nat)=>if i < k then (i:Int) else 0)
def new:I_:=Jh 256
theorem Vt (k:Nat):(Jh k).length=256:=by rw [Jh,List.length_map,List.length_range]
theorem FW:new.length=256:=Vt 256
theorem dI (k:Nat):(Jh k).set k k=Jh (k+1):=by
 apply List.ext_getElem?;intro i;simp only [Jh,List.getElem?_set,List.getElem?_map,List.length_map,List.length_range];by_cases h:k=i
 ·subst h;by_cases h2:k < 256
  ·simp [h2]
  ·simp [h2]
 ·simp only [h,if_false];by_cases h2:i < 256
  ·rw [List.getElem?_range h2];simp only [Option.map_some,Option.some.injEq];by_cases h3:i < k
   ·rw [if_pos h3,if_pos (by omega)]
   ·rw [if_neg h3,if_neg (by omega)]
  ·rw [List.getElem?_eq_none (by rw [List.length_range];omega)];rfl
def front (l:I_) (k:Nat):I_:=gi l k::l.eraseIdx k
theorem mY (l:I_) (k:Nat) (h:k < l.length):(front l k).length=l.length:=by
 simp [front,List.length_eraseIdx,h];omega
def sh (l:I_) (k i:Nat):I_:=l.take (i+1)++((l.take k).drop i++l.drop (k+1))
theorem A2g (l:I_) (k i:Nat) (h:k < l.length) (hi:i<=k):(sh l k i).length=l.length:=by
 simp [sh];omega
theorem A1P (l:I_) (k:Nat) (h:k < l.length):(sh l k 0).set 0 (gi l k)=front l k:=by
 cases l with
|nil=>simp at h
|cons a l =>
  simp [sh,front,List.eraseIdx_eq_take_drop_succ]
theorem zO (l:I_) (k:Nat) (h:k < l.length):sh l k 0=l.take 1++l.take k++l.drop (1+(l.take k).length):=by
 simp [sh,Nat.min_eq_left (Nat.le_of_lt h),Nat.add_comm]
def Ie (l:I_) (p:Int):I_:=if 0<=p/\p < 256 then front l p.toNat else l
def takeC (l:I_) (p:Int):Int:=if 0<=p/\p < 256 then gi l p.toNat else 0
def takeB (p:Int):Bool:=decide (0<=p/\p < 256)
theorem Vs (l:I_) (p:Int) (h:l.length=256):(Ie l p).length=256:=by
 unfold Ie;split
 ·rw [mY]
  ·exact h
  ·omega
 ·exact h
def pos (l:I_) (c:Int):Int:=if l.findIdx (· == c) < l.length then (l.findIdx (· == c):Int) else -1
def one (k:Nat):I_:=(List.range 256).map (fun (i:Nat)=>if i < k then (1:Int) else 0)
def ones:I_:=one 256
theorem jm (k:Nat):(one k).length=256:=by rw [one,List.length_map,List.length_range]
theorem one_step (k:Nat):(one k).set k 1=one (k+1):=by
 apply List.ext_getElem?;intro i;simp only [one,List.getElem?_set,List.getElem?_map,List.length_map,List.length_range];by_cases h:k=i
 ·subst h;by_cases h2:k < 256
  ·simp [h2]
  ·simp [h2]
 ·simp only [h,if_false];by_cases h2:i < 256
  ·rw [List.getElem?_range h2];simp only [Option.map_some,Option.some.injEq];by_cases h3:i < k
   ·rw [if_pos h3,if_pos (by omega)]
   ·rw [if_neg h3,if_neg (by omega)]
  ·rw [List.getElem?_eq_none (by rw [List.length_range];omega)];rfl
def Ew (l:I_) (k:Nat):I_:=(List.range 256).map (fun (i:Nat)=>if (l.take k).contains (i:Int) then (1:Int) else 0)
theorem dN (l:I_) (k:Nat):(Ew l k).length=256:=by rw [Ew,List.length_map,List.length_range]
theorem Y2 (l:I_) (k:Nat) (hk:k < l.length) (hb:0<=gi l k):(Ew l k).set (gi l k).toNat 1=Ew l (k+1):=by
 have e:l.take (k+1)=l.take k++[gi l k]:=by
  rw [List.take_succ_eq_append_getElem hk];simp [gi,List.getD_eq_getElem?_getD,l_e hk]
 apply List.ext_getElem?;intro i;simp only [Ew,e,List.getElem?_set,List.getElem?_map,List.length_map,List.length_range];by_cases h2:i < 256
 ·rw [List.getElem?_range h2];by_cases h:(gi l k).toNat=i
  ·rw [if_pos h,if_pos (by omega)];have:(i:Int)=gi l k:=by omega
   simp [this]
  ·rw [if_neg h];have:¬ (i:Int)=gi l k:=by omega
   simp [this]
 ·rw [List.getElem?_eq_none (show (List.range 256).length<=i by rw [List.length_range];omega)];split
  ·rw [if_neg (by omega)];rfl
  ·rfl
def vld (l:I_):Bool:=Ew l 256 == ones
end Go.Proofs.YtkpbhdhkdonghaaGreat
