/- Part 1 of the proof. -/
import Derived.WalkSpells
import Derived.StillTail
set_option linter.all false
namespace Go.Proofs.YtkpbhdhkdonghaaGreat
open Go Go.RowKit
abbrev FC:=World
abbrev aP:=@if_neg
abbrev aQ:=@if_pos
abbrev aU:=@decide_eq_false
abbrev aV:=@List.length_append
abbrev aW:=@decide_eq_true
abbrev aX:=@Nat.le_refl
abbrev aY:=@List.Sublist.refl
abbrev aZ:=@IntWalk.i64_in
abbrev bD:=@List.length_cons
abbrev bF:=@Nat.lt_or_ge
abbrev bG:=@List.sublist_append_right
abbrev bT:=@List.map_cons
abbrev bW:=@List.length_nil
abbrev bZ:=@List.map_nil
abbrev cO:=@List.length_set
abbrev dh:=@List.mem_cons
abbrev dA:=@Nat.zero_add
abbrev dB:=@Int.eq_ofNat_of_zero_le
abbrev dD:=@Nat.zero_le
abbrev dF:=@List.getElem_mem
abbrev dG:=@List.mem_append
abbrev eG:=@List.cons_append
abbrev dQ:=@List.length_drop
abbrev eF:=@of_decide_eq_true
abbrev eP:=@List.mem_cons_self
abbrev fC:=@List.mem_singleton
abbrev fB:=@List.mem_cons_of_mem
abbrev dR:=@List.nodup_cons
abbrev fO:=@results_tmp3
abbrev fF:=@List.append_nil
abbrev fM:=@List.Perm.swap
abbrev fP:=@if_true
abbrev dS:=@List.mem_range
abbrev fQ:=@Addr.add_lit
abbrev fU:=@List.getD_eq_getElem?_getD
abbrev gu:=@getD_set_ne
abbrev fZ:=@List.length_take
abbrev gB:=@Int.toNat_natCast
abbrev eX:=@List.mem_map
abbrev gG:=@Nat.add_assoc
abbrev gK:=@List.perm_append_comm
abbrev gX:=@List.size_toArray
abbrev iY:=@List.nil_append
abbrev gY:=@List.take_length
abbrev gI:=@List.getElem?_eq_some_iff
abbrev iw:=@List.mem_of_mem_drop
abbrev iy:=@List.perm_append_comm_assoc
abbrev iI:=@beq_iff_eq
abbrev jc:=@Nat.sub_zero
abbrev iP:=@List.all_eq_true
abbrev iQ:=@List.getElem?_eq_none
abbrev iW:=@wpOp_mono
abbrev jg:=@List.drop_eq_getElem_cons
abbrev jf:=@Int.add_zero
abbrev iV:=@Nat.sub_self
abbrev jq:=@if_false
abbrev jo:=@List.perm_middle
abbrev jw:=@List.Sublist.cons_cons
abbrev jy:=@Nat.le_trans
abbrev ji:=@Array.getElem?_eq_some_iff
abbrev iZ:=@List.filterMap_cons
abbrev iK:=@block_lt_of_cell
abbrev jB:=@List.mem_of_mem_take
abbrev jF:=@List.Sublist.append
abbrev jC:=@List.take_of_length_le
abbrev jD:=@Nat.pow_le_pow_right
abbrev jI:=@List.getElem?_toArray
abbrev iU:=@List.mem_filterMap
abbrev jG:=@Int.le_refl
abbrev jE:=@Option.map_some
abbrev jr:=@List.Perm.cons
abbrev jK:=@Nat.lt_of_le_of_lt
abbrev jV:=@Array.replicate_succ
abbrev jW:=@Array.replicate_zero
abbrev jX:=@List.push_toArray
abbrev jZ:=@List.append_toArray
abbrev jU:=@List.mem_append_left
abbrev jL:=@run_program
abbrev jv:=@List.nodup_append
abbrev jH:=@List.getElem?_map
abbrev jO:=@IntWalk.u32_in
abbrev jT:=@List.length_range
abbrev ku:=@List.set_cons_succ
abbrev kC:=@List.take_append_drop
abbrev kF:=@List.getElem?_append_left
abbrev kU:=@List.mem_append_right
abbrev kM:=@IntWalk.u8_in
abbrev kQ:=@Nat.mul_one
abbrev l7:=@List.getElem?_cons_succ
abbrev lG:=@List.foldl_append
abbrev kW:=@List.take_succ_eq_append_getElem
abbrev lH:=@beq_eq_false_iff_ne
abbrev kX:=@List.length_map
abbrev kV:=@List.mem_or_eq_of_mem_set
abbrev l9:=@List.length_eq_zero_iff
abbrev lC:=@List.length_take_le'
abbrev jJ:=@List.countP_append
abbrev kY:=@List.getElem?_range
abbrev lu:=@IntWalk.u64_in
abbrev lV:=@List.sublist_cons_self
abbrev lW:=@List.getElem?_append_right
abbrev lU:=@Bool.false_eq_true
abbrev lI:=@List.ext_getElem?
abbrev lX:=@List.mem_filter
abbrev mJ:=@mem_ready
abbrev lY:=@List.setIfInBounds_toArray
abbrev iR:=@decide_eq_true_eq
abbrev mW:=@Nat.add_zero
abbrev ni:=@List.eq_of_mem_replicate
abbrev oD:=@Oper.semAt_some
abbrev oH:=@callsIn_wide
abbrev mO:=@List.take_zero
abbrev mX:=@List.sum_cons
abbrev ng:=@List.sum_nil
abbrev oz:=@Prod.mk.injEq
abbrev oG:=@Option.some.injEq
abbrev o9:=@Ne.symm
abbrev mM:=@List.getElem?_set
abbrev oJ:=@World.ownsRow_nil
abbrev ou:=@Nat.pow_succ
abbrev nN:=@Int.pow_pos
abbrev mP:=@MapKept.run_getObj_map
abbrev qC:=@List.drop_length
abbrev qG:=@List.set_set
abbrev qN:=@World.size_alloc
abbrev qw:=@Nat.eq_zero_or_pos
abbrev oh:=@Nat.add_mul
abbrev nH:=@List.getElem?_take_of_lt
abbrev qL:=@List.not_mem_nil
abbrev qM:=@or_false
abbrev qO:=@bne_iff_ne
abbrev qF:=@Array.ext'
abbrev qh:=@List.drop_eq_nil_of_le
abbrev rU:=@List.length_singleton
abbrev qB:=@List.getElem?_drop
abbrev rQ:=@World.cell?_of_block
abbrev rC:=@List.eq_nil_of_length_eq_zero
abbrev rX:=@List.length_reverse
abbrev sD:=@Nat.mod_lt
abbrev qU:=@Option.isSome_iff_exists
abbrev qQ:=@List.sum_append
abbrev qY:=@List.Sublist.cons
abbrev qj:=@Nat.zero_mul
abbrev ru:=@List.set_append_right
abbrev rW:=@bits_join
abbrev qX:=@Nat.lt_trichotomy
abbrev sQ:=@ready_mono
abbrev qZ:=@Nat.add_sub_cancel_left
abbrev rP:=@callsIn_of_wp
abbrev qA:=@List.ext_getElem
abbrev sO:=@Nat.mul_comm
abbrev uD:=@List.drop_append_of_le_length
abbrev uf:=@Array.ext
abbrev vg:=@List.flatten_append
abbrev vk:=@List.flatten_cons
abbrev wE:=@List.drop_zero
abbrev tY:=@growslice_fits
abbrev tZ:=@size_zeroCells
abbrev wC:=@List.take_succ_cons
abbrev wK:=@results_tmp2
abbrev qE:=@List.cons.injEq
abbrev uF:=@Prod.ext
abbrev tq:=@Array.getElem?_setIfInBounds_ne
abbrev um:=@run_equalIn_int
abbrev uq:=@Bool.and_true
abbrev qV:=@Bool.or_eq_true
abbrev vw:=@Int.lt_trichotomy
abbrev oq:=@List.countP_cons
abbrev tX:=@List.pairwise_map
abbrev uO:=@getD_set_true
abbrev ug:=@Array.getElem?_eq_none
abbrev tV:=@Nat.le_of_not_lt
abbrev tN:=@Int.mul_nonneg
abbrev uh:=@List.getElem_of_mem
abbrev uQ:=@Nat.min_def
abbrev qP:=@Nat.min_eq_left
abbrev uX:=@bits_mask
abbrev a0l:=@List.Perm.append_right
abbrev rV:=@Nat.mul_le_mul_right
abbrev og:=@List.pairwise_iff_getElem
abbrev wR:=@List.flatten_nil
abbrev xR:=@List.drop_drop
abbrev xk:=@grownCap_ge
abbrev xQ:=@run_build
abbrev xY:=@World.frozen?_of_block
abbrev xA:=@List.Perm.trans
abbrev x9:=@List.idxOf_cons
abbrev vF:=@List.countP_map
abbrev y9:=@List.drop_succ_cons
abbrev yg:=@List.perm_ext_iff_of_nodup
abbrev xZ:=@Option.map_none
abbrev xg:=@Nat.pow_pos
abbrev xE:=@List.countP_le_length
abbrev y5:=@Addr.add_zero'
abbrev wS:=@results_none
abbrev xO:=@Nat.div_le_self
abbrev xU:=@BitVec.ofInt_natCast
abbrev xX:=@Nat.mod_eq_of_lt
abbrev DL:=@Exit.noGoto_ret
abbrev zC:=@Array.getElem?_append_left
abbrev Ea:=@Option.some.inj
abbrev zY:=@List.take_left'
abbrev zA:=@run_firstCells_some
abbrev zB:=@Array.size_append
abbrev zD:=@List.Sublist.append_left
abbrev zU:=@List.contains_nil
abbrev zT:=@Array.getElem?_setIfInBounds_self_of_lt
abbrev Bc:=@run_equalIn_struct
abbrev Bf:=@run_eqGuard_agg
abbrev BM:=@run_eql_struct
abbrev y8:=@Bool.true_and
abbrev zn:=@List.length_erase_of_mem
abbrev zF:=@Array.size_setIfInBounds
abbrev zo:=@List.filter_eq_self
abbrev lZ:=@List.countP_congr
abbrev ES:=@List.map_append
abbrev DV:=@List.singleton_append
abbrev Dj:=@List.getElem?_set_self
abbrev Dv:=@List.getElem?_set_ne
abbrev zZ:=@not_false_eq_true
abbrev EP:=@List.set_cons_zero
abbrev F8:=@Array.setIfInBounds_comm
abbrev yc:=@List.nodup_nil
abbrev Cc:=@List.countP_eq_length
abbrev EF:=@Bool.eq_iff_iff
abbrev Ef:=@beq_self_eq_true
abbrev yT:=@Bool.false_or
abbrev zX:=@List.map_congr_left
abbrev uj:=@List.countP_singleton
abbrev zk:=@List.set_append_left
abbrev BQ:=@List.drop_left
abbrev zl:=@Int.mul_le_mul_of_nonneg_right
abbrev CZ:=@World.cell?_setCell_same'
abbrev Dh:=@World.frozen?_setCell
abbrev Cj:=@BitVec.toNat_ofNat
abbrev EG:=@Nat.div_le_div_right
abbrev Ep:=@Int.ediv_nonneg
abbrev Et:=@Int.ediv_le_self
abbrev zf:=@List.mem_iff_getElem
abbrev zW:=@List.getElem_take
abbrev F9:=@Result.ok.injEq
abbrev zV:=@Nat.add_right_comm
abbrev Fh:=@Nat.mod_two_eq_zero_or_one
abbrev Fj:=@Classical.byContradiction
abbrev Fa:=@List.getElem?_cons_zero
abbrev FB:=@Array.getElem?_eq_getElem
abbrev Fe:=@List.drop_of_length_le
abbrev Fp:=@List.getElem_append_left
abbrev Fb:=@List.eraseIdx_eq_take_drop_succ
abbrev MZ(o:Oper)(ops:Array Oper)(a:Act):Prop:=Region.wanted o (yielded ops a.tmps)=true
abbrev ai:=Array Value
abbrev NY:=Value
abbrev O4:=TypeId
abbrev O7:=Operand
abbrev O8:=Program
abbrev O9:=Nat×ai
abbrev Ob:=IntKind
abbrev Oc:=Array Bool
abbrev Oo:=Option Nat
abbrev Oq:=Option (Nat×Bool)
abbrev Ot:=Array Edge
abbrev Ou:=List (Nat×Bool)
abbrev Ov:=Option Addr
abbrev Oy:=TypeInfo
abbrev Oz:=Oper
abbrev OA:=Act
abbrev OB:=List (Nat×Oper)
abbrev OE:=FC->Prop
abbrev ar:=List Value
abbrev ac:=List Int
abbrev b9:=List Nat
abbrev aJ:=Act->World->Prop
abbrev bl:=Array Oper
abbrev bt:=List Oper
abbrev a1X:=@Nat.eq_of_beq_eq_true
abbrev oA:=@Nat.le_of_ble_eq_true
abbrev aS:=@Result.andThen_ok
abbrev cR:=@Bool.and_eq_true
abbrev aL:=@Sem.run_bind
abbrev aD:=@bodyPost_ret
abbrev aI:=@List.append_assoc
abbrev a1W:=@List.getElem?_eq_some_iff
abbrev cE:=@Array.getElem?_toList
abbrev bL:=@run_underlying
abbrev bw:=@Sem.run_pure
abbrev fe:=@List.getElem?_eq_getElem
abbrev zE:=@List.all_eq_true
abbrev fp:=@List.length_replicate
abbrev dT:=@List.mem_of_getElem?
abbrev a1V:=@Array.getElem?_eq_some_iff
abbrev cM:=@List.map_toArray
def s2{α:Type}:(∀(a:α)(l m:List α),a::l++m=a::(l++m))/\(∀l:List α,[]++l=l):=⟨λ_ _ _=>rfl,λ_=>rfl⟩
def s3{α:Type}:(∀(l:List α)(i:Nat)(a:α),l.toArray.setIfInBounds i a=(l.set i a).toArray)/\(∀(x a:α)(l:List α),(x::l).set 0 a=a::l)/\(∀(x a:α)(n:Nat)(l:List α),(x::l).set (n+1) a=x::l.set n a):=⟨by simp,by simp,by simp⟩
def aa{p:Prop}(h:p):Hid p:=h
def av{n:Int}(h:-9223372036854775808<=n/\n<=9223372036854775807:=by omega):IntKind.i64.wrap n=n:=IntWalk.i64_in n h
def an{p:Prop}[Decidable p](h:¬p:=by omega):decide p=false:=decide_eq_false h
def az{p:Prop}[Decidable p](h:p:=by omega):decide p=true:=decide_eq_true h
def al{p q:Prop}(h:p)(e:p=q:=by with_unfolding_all rfl):q:=e▸h
abbrev ae:=List (Nat×ai)
section
variable{cs cs2 ns tmps:ai}{k:IntKind}{l m:ac}{H L b c cap dCap dLen g gs n off off' os sCap sLen:Nat}{x y:Operand}{ad:Option Addr}{hi lo:Option Operand}{e elem s t t' ty:TypeId}{i:TypeInfo}{w':World}
def AA(w:World)(g:Nat)(cs:ai):Prop:=∃t,w.heap[g]?=some (.cells cs t (0,0))
def AA.lt{w:World}(h:AA w g cs):g<w.heap.size:=by
 obtain⟨t,h⟩:=h;exact(Array.getElem?_eq_some_iff.1 h).1
def AA.cell{w:World}{g:Nat}{cs:ai}(h:AA w g cs)(i:Nat):w.cell? ⟨g,i,none⟩=cs[i]?:=by
 obtain⟨t,h⟩:=h;exact cell_of_row w g i cs t (0,0) h
def AA.free{w:World}(h:AA w g cs)(i:Nat):w.frozen? ⟨g,i,none⟩=false:=by
 obtain⟨t,h⟩:=h;exact frozen_of_row w g i cs t h
def AA.new(w:World)(cs:ai)(t:TypeId):AA (w.alloc (.cells cs t)) w.heap.size cs:=⟨t,heap_alloc_new w _⟩
def AA.of_block{w:World}(h:AA w g cs)(e:w'.heap[g]?=w.heap[g]?):AA w' g cs:=by
 obtain⟨t,h⟩:=h;exact⟨t,e.trans h⟩
def AA.setRow{w:World}{g:Nat}{cs:ai}(h:AA w g cs)(vs:ai):AA (w.setRow g vs) g vs:=by
 obtain⟨t,h⟩:=h;exact⟨t,setRow_heap w g cs vs t _ h⟩
def AA.setCell{w:World}{g:Nat}{cs:ai}(h:AA w g cs)(i:Nat)(v:Value):AA (w.setCell ⟨g,i,none⟩ v) g (cs.setIfInBounds i v):=by
 obtain⟨t,h⟩:=h;exact⟨t,heap_setCell_same w g i cs t v h⟩
structure Mem(w0 w:World)(rs:ae):Prop where
 below:Below w0.heap.size w0 w
 own:∀p∈rs,w0.heap.size<=p.1
 rows:∀p∈rs,AA w p.1 p.2
 apart:(rs.map (·.1)).Nodup
def Mem.nil(w:World):Mem w w []:=⟨Below.refl _ _,by simp,by simp,by simp⟩
def Mem.get{w0 w:World}{rs:ae}(h:Mem w0 w rs)(i:Nat)(hi:rs[i]?=some (g,cs)):AA w g cs:=
 h.rows (g,cs) (dT hi)
def Mem.alloc{w0 w:World}{rs:ae}(h:Mem w0 w rs)(cs:ai)(t:TypeId):Mem w0 (w.alloc (.cells cs t)) ((w.heap.size,cs)::rs):=by
 refine⟨h.below.alloc h.below.size _,?_,?_,?_⟩
 .intro p hp;rcases List.mem_cons.1 hp with rfl|hp
  .exact h.below.size
  .exact h.own p hp
 .intro p hp;rcases List.mem_cons.1 hp with rfl|hp
  .exact AA.new w cs t
  .exact(h.rows p hp).of_block (Below.heap_alloc w _ _ (h.rows p hp).lt)
 .simp only[List.map_cons,List.nodup_cons];refine⟨?_,h.apart⟩;intro hm;obtain⟨p,hp,e⟩:=List.mem_map.1 hm;have:=(h.rows p hp).lt;omega
def Mem.PV{w0 w:World}{rs:ae}(h:Mem w0 w rs)(o:Obj):Mem w0 (w.alloc o) rs:=
 ⟨h.below.alloc h.below.size _,h.own,λp hp=>(h.rows p hp).of_block (Below.heap_alloc w _ _ (h.rows p hp).lt),h.apart⟩
def Mem.drawn{w0 w:World}{rs:ae}(h:Mem w0 w rs)(n:Nat):Mem w0 {w with drawn:=n} rs:=
 ⟨⟨h.below.os,h.below.tape,h.below.output,h.below.size,h.below.block⟩,h.own,λp hp=>(h.rows p hp).of_block rfl,h.apart⟩
def Mem.call{w0 w:World}{rs:ae}(h:Mem w0 w rs)(hb:Below w.heap.size w w'):Mem w0 w' rs:=
 ⟨h.below.trans (hb.mono h.below.size),h.own,λp hp=>(h.rows p hp).of_block (hb.block _ (h.rows p hp).lt),h.apart⟩
def Mem.grown{w0 w w':World}{rs:ae}(h:Mem w0 w rs){row:Option Nat}(hg:w.grownBy w' row)(hr:∀k,row=some k->w0.heap.size<=k)(hn:∀k,row=some k->k∉rs.map (·.1)):Mem w0 w' rs:=
 ⟨h.below.grown hg h.below.size hr,h.own,λp hp=>(h.rows p hp).of_block (hg.block _ (h.rows p hp).lt (λe=>hn _ e.symm (List.mem_map.2 ⟨p,hp,rfl⟩))),h.apart⟩
def KI{α β:Type}:∀(rs:List (α×β))(i:Nat)(g:α)(c c':β),rs[i]?=some (g,c)->(rs.set i (g,c')).map (·.1)=rs.map (·.1)
|[],_,_,_,_,h=>by simp at h
|r::rs,0,g,c,c',h=>by simp at h;subst h;simp
|r::rs,i+1,g,c,c',h=>by simp at h;simp[KI rs i g c c' h]
def Gl{α:Type}:∀(l:List α)(i:Nat)(x y:α),y∈l.set i x->y=x\/∃j,j≠i/\l[j]?=some y
|[],_,_,_,h=>by simp at h
|a::l,0,x,y,h=>by
  simp at h;rcases h with rfl|h
  .exact .inl rfl
  .obtain⟨j,hj,e⟩:=List.getElem_of_mem h;exact .inr ⟨j+1,by omega,by simp[fe hj,e]⟩
|a::l,i+1,x,y,h=>by
  simp at h;rcases h with rfl|h
  .exact .inr ⟨0,by omega,by simp⟩
  .rcases Gl l i x y h with h|⟨j,hj,e⟩
   .exact .inl h
   .exact .inr ⟨j+1,by omega,by simpa using e⟩
def X8{α β:Type}(rs:List (α×β))(hn:(rs.map (·.1)).Nodup){i j:Nat}(p q:α×β)(hi:rs[i]?=some p)(hj:rs[j]?=some q)(hij:j≠i):q.1≠p.1:=by
 intro e;have h1:(rs.map (·.1))[i]?=some p.1:=by simp[hi]
 have h2:(rs.map (·.1))[j]?=some p.1:=by simp[hj,e]
 obtain⟨a1,a2⟩:=List.getElem?_eq_some_iff.1 h1;obtain⟨b1,b2⟩:=List.getElem?_eq_some_iff.1 h2;have hp:=List.pairwise_iff_getElem.1 hn;rcases Nat.lt_or_gt_of_ne hij with hlt|hlt
 .exact hp j i b1 a1 hlt (b2.trans a2.symm)
 .exact hp i j a1 b1 hlt (a2.trans b2.symm)
def Mem.put{w0 w:World}{rs:ae}(h:Mem w0 w rs)(i:Nat){vs:ai}(hi:rs[i]?=some (g,cs))(hr:AA w' g vs)(hg:w.grownBy w' (some g)):Mem w0 w' (rs.set i (g,vs)):=by
 have hm:(g,cs)∈rs:=dT hi;refine⟨h.below.grown hg h.below.size (λk e=>by cases e;exact h.own _ hm),?_,?_,?_⟩
 .intro p hp;rcases Gl _ _ _ _ hp with e|⟨j,hj,e⟩
  .rw[e];show w0.heap.size<=g;exact h.own (g,cs) hm
  .exact h.own _ (dT e)
 .intro p hp;rcases Gl _ _ _ _ hp with rfl|⟨j,hj,e⟩
  .exact hr
  .have hpm:=dT e;have hne:p.1≠g:=X8 rs h.apart _ _ hi e hj;exact(h.rows p hpm).of_block (hg.block _ (h.rows p hpm).lt (λe=>hne (by cases e;rfl)))
 .rw[KI rs i g cs vs hi];exact h.apart
def EC(w:World)(g:Nat)(cs:ai):w.grownBy (w.setRow g cs) (some g):=
 ⟨rfl,rfl,rfl,by simp,λk _ hk=>setRow_other w g k cs (λe=>hk (by rw[e]))⟩
def grownBy_setCell(w:World)(g i:Nat)(v:Value):w.grownBy (w.setCell ⟨g,i,none⟩ v) (some g):=
 ⟨rfl,rfl,rfl,by simp[World.setCell],λk _ hk=>heap_setCell_other w _ k v (λe=>hk (by rw[e]))⟩
def Mem.setRow{w0 w:World}{rs:ae}(h:Mem w0 w rs)(i:Nat){g:Nat}{cs:ai}(vs:ai)(hi:rs[i]?=some (g,cs)):Mem w0 (w.setRow g vs) (rs.set i (g,vs)):=
 h.put i hi ((h.get i hi).setRow vs) (EC w g vs)
def Mem.setCell{w0 w:World}{rs:ae}(h:Mem w0 w rs)(i:Nat){g:Nat}{cs:ai}(k:Nat)(v:Value)(hi:rs[i]?=some (g,cs)):Mem w0 (w.setCell ⟨g,k,none⟩ v) (rs.set i (g,cs.setIfInBounds k v)):=
 h.put i hi ((h.get i hi).setCell k v) (grownBy_setCell w g k v)
structure Aq(P:Program)(ty:TypeId)(n:Nat):Prop where
 agg:∀w,(isAgg ty).run P w=.ok true w
 size:(P.info? ty).map (·.size)=some n
def Aq.mk'{P:Program}{d:TypeDesc}(hu:P.underlying ty=some d)(hd:(match d with|.struct _|.array _ _=>true|_=>false)=true)(hs:(P.info? ty).map (·.size)=some n):Aq P ty n:=by
 refine⟨λw=>?_,hs⟩;unfold isAgg;rw[aL,bL hu w];cases d<;>simp_all
def splice(cs:ai)(off:Nat)(vs:ai):ai:=(cs.toList.take off++vs.toList++cs.toList.drop (off+vs.size)).toArray
def pY(cs vs:ai)(h:vs.size=cs.size):splice cs 0 vs=vs:=by
 have:cs.toList.drop vs.size=[]:=List.drop_of_length_le (by simp;omega);simp[splice,this]
variable{P:Program}
def Jd{w:World}(hr:AA w g cs)(ht:Aq P ty n)(hf:off+n<=cs.size):
  (loadVar ty ⟨g,off,none⟩).run P w=.ok (.agg (cs.extract off (off+n))) w:=by
 have hlen:(cs.extract off (off+n)).toList.length=n:=by simp;omega
 have hl:(loadCells ⟨g,off,none⟩ (cs.extract off (off+n)).toList.length).run P w=.ok (cs.extract off (off+n)).toList.toArray w:=
  run_loadCells_list (P:=P) w ⟨g,off,none⟩ (cs.extract off (off+n)).toList (λj v hv=>by
   rw[Addr.add_lit,hr.cell (off+j)];simp only[cE,Array.getElem?_extract]at hv;split at hv
   .exact hv
   .cases hv)
 rw[hlen]at hl;cases hq:P.info? ty with
|none=>have:=ht.size;simp[hq]at this
|some i=>
  have hs:i.size=n:=by have:=ht.size;simpa[hq]using this
  simp only[Array.toArray_toList]at hl;simp[loadVar,aL,ht.agg,sizeOf,typeInfo,hq,hs,hl]
def a07{w:World}{vs:ai}(hr:AA w g cs)(ht:Aq P ty n)(hv:vs.size=n)(hf:off+n<=cs.size)(h1:∀v∈vs,v.oneCell'=true):
  (storeVar ty ⟨g,off,none⟩ (.agg vs)).run P w=.ok () (w.setRow g (splice cs off vs)):=by
 obtain⟨t,hr⟩:=hr;have hst:=run_storeCells_at P g off t vs.toList 0 cs w hr (by simp;omega) (λv hv=>h1 v (by simpa using hv));simp only[Nat.add_zero,Array.length_toList]at hst;cases hq:P.info? ty with
|none=>have:=ht.size;simp[hq]at this
|some i=>
  have hs:i.size=n:=by have:=ht.size;simpa[hq]using this
  simp[storeVar,sizeOf,typeInfo,hq,Value.cells,hs,hv,hst,splice]
def A8{ops:bl}{rest:bt}{o:Oper}{a:Act}{w:World}{Q:Exit->aJ}{v:Value}(hg:Region.wanted o (yielded ops a.tmps)=true)
  (hrun:(execOp a.eval o).run P w=.ok (.value v) w')(h:wpList P ops Q rest (a.put o.dst v) w'):wpList P ops Q (o::rest) a w:=
 wpList_step λ_ hK=>by rw[if_pos hg];unfold Oper.wp;rw[hrun];exact hK _ _ h
def FN{ops:bl}{rest:bt}{o:Oper}{a:Act}{w:World}{Q:Exit->aJ}(hg:Region.wanted o (yielded ops a.tmps)=true)
  (hrun:(execOp a.eval o).run P w=.ok .skip w')(h:wpList P ops Q rest (a.put o.dst undef) w'):wpList P ops Q (o::rest) a w:=
 wpList_step λ_ hK=>by rw[if_pos hg];unfold Oper.wp;rw[hrun];exact hK _ _ h
def IQ{ops:bl}{rest:bt}{o:Oper}{a:Act}{w:World}{Q:Act->Prop}{v:Value}(hg:Region.wanted o (yielded ops a.tmps)=true)
  (hrun:(execOp a.eval o).run P w=.ok (.value v) w)(h:wpStill P ops w Q rest (a.put o.dst v)):wpStill P ops w Q (o::rest) a:=by
 refine wpStill_step λK hK=>?_;rw[if_pos hg];unfold Oper.still;rw[hrun];exact⟨rfl,hK _ h⟩
def Gp{o:Oper}{a:Act}{w:World}(ho:o.op=.load ty x)(hx:a.eval x=.pointer (some ⟨g,off,none⟩)) 
  (hr:AA w g cs)(ht:Aq P ty n)(hf:off+n<=cs.size):(execOp a.eval o).run P w=.ok (.value (.agg (cs.extract off (off+n)))) w:=by
 unfold execOp;simp only[ho,hx,Instr.loadAt,Instr.sureAddr,aL,bw,aS,Jd hr ht hf]
def Gn{o:Oper}{a:Act}{w:World}(ho:o.op=.store ty x y)(hx:a.eval x=.pointer (some ⟨g,off,none⟩)){vs:ai}(hy:a.eval y=.agg vs) 
  (hr:AA w g cs)(ht:Aq P ty n)(hv:vs.size=n)(hf:off+n<=cs.size)(h1:∀v∈vs,v.oneCell'=true):(execOp a.eval o).run P w=.ok .skip (w.setRow g (splice cs off vs)):=by
 unfold execOp;simp only[ho,hx,hy,Instr.storeAt,Instr.sureAddr,aL,bw,aS,a07 hr ht hv hf h1]
def Ec{w:World}(hr:AA w g cs)(ht:Aq P ty cs.size):(loadVar ty ⟨g,0,none⟩).run P w=.ok (.agg cs) w:=by
 have h:=Jd (P:=P) (off:=0) hr ht (by omega);simpa using h
def AQ{fn:Func}{p:Tmp}(h:fn.results=#[.cell p ty]){w:World} 
  (hp:tmps.getD p undef=.pointer (some ⟨g,0,none⟩))(hr:AA w g cs)(ht:Aq P ty cs.size):(results fn tmps).run P w=.ok (.agg cs) w:=by
 have hp':tmps[p]?.getD undef=.pointer (some ⟨g,0,none⟩):=by simpa using hp
 simp[results,h,hp',asAddr,Ec hr ht]
def Af{fn:Func}{p t:Tmp}(h:fn.results=#[.cell p ty,.tmp t]){w:World} 
  (hp:tmps.getD p undef=.pointer (some ⟨g,0,none⟩))(hr:AA w g cs)(ht:Aq P ty cs.size):(results fn tmps).run P w=.ok (.tuple #[.agg cs,tmps.getD t undef]) w:=by
 have hp':tmps[p]?.getD undef=.pointer (some ⟨g,0,none⟩):=by simpa using hp
 simp[results,h,hp',asAddr,Ec hr ht]
def Ae{fn:Func}{p t u:Tmp}(h:fn.results=#[.cell p ty,.tmp t,.tmp u]){w:World} 
  (hp:tmps.getD p undef=.pointer (some ⟨g,0,none⟩))(hr:AA w g cs)(ht:Aq P ty cs.size):(results fn tmps).run P w=.ok (.tuple #[.agg cs,tmps.getD t undef,tmps.getD u undef]) w:=by
 have hp':tmps[p]?.getD undef=.pointer (some ⟨g,0,none⟩):=by simpa using hp
 simp[results,h,hp',asAddr,Ec hr ht]
def EJ{fn:Func}{p t u v:Tmp}(h:fn.results=#[.cell p ty,.tmp t,.tmp u,.tmp v]){w:World} 
  (hp:tmps.getD p undef=.pointer (some ⟨g,0,none⟩))(hr:AA w g cs)(ht:Aq P ty cs.size):(results fn tmps).run P w=.ok (.tuple #[.agg cs,tmps.getD t undef,tmps.getD u undef,tmps.getD v undef]) w:=by
 have hp':tmps[p]?.getD undef=.pointer (some ⟨g,0,none⟩):=by simpa using hp
 simp[results,h,hp',asAddr,Ec hr ht]
def gi(l:ac)(i:Nat):Int:=l.getD i 0
def vs(k:IntKind)(l:ac):ar:=l.map (Value.int k)
def B(l:ac):ai:=(vs .u8 l).toArray
def I(l:ac):ai:=(vs .i64 l).toArray
def Ai(k:IntKind)(l:ac):(vs k l).length=l.length:=by simp[vs]
def Ih:(B l).size=l.length:=by simp[B,vs]
def bC:(I l).size=l.length:=by simp[I,vs]
def Ic(k:IntKind)(l:ac):∀v∈vs k l,v.oneCell'=true:=by
 intro v hv;obtain⟨n,_,rfl⟩:=List.mem_map.1 hv;rfl
def Ut:∀v∈B l,v.oneCell'=true:=by
 intro v hv;exact Ic .u8 l v (by simpa[B]using hv)
def QE:∀v∈I l,v.oneCell'=true:=by
 intro v hv;exact Ic .i64 l v (by simpa[I]using hv)
def Fg(k:IntKind)(l:ac)(i:Nat)(h:i<l.length):(vs k l)[i]?=some (.int k (gi l i)):=by simp[vs,gi,h,List.getD]
def Zd(l:ac)(i:Nat)(h:i<l.length):(B l)[i]?=some (.int .u8 (gi l i)):=by simpa[B]using Fg .u8 l i h
def ky(l:ac)(i:Nat)(x:Int):(B l).setIfInBounds i (.int .u8 x)=B (l.set i x):=by
 apply Array.ext';simp[B,vs,List.map_set]
def C5(l:ac)(i:Nat)(x:Int):(I l).setIfInBounds i (.int .i64 x)=I (l.set i x):=by
 apply Array.ext';simp[I,vs,List.map_set]
def Je{w:World}(d:Nat){e:TypeId}{k:IntKind}(he:P.underlying e=some (.int k)):∀(is:b9)(l m:ac),(∀i∈is,i<l.length/\i<m.length)->
  (Op.eqItems (d+1) e 1 (vs k l).toArray (vs k m).toArray is).run P w=.ok (is.all λi=>gi l i==gi m i) w
|[],_,_,_=>by simp[Op.eqItems]
|i::is,l,m,h=>by
  obtain⟨h1,h2⟩:=h i (by simp);have ih:=Je (w:=w) d he is l m (λj hj=>h j (by simp[hj]))
  have pl:(part e (vs k l).toArray (i*1)).run P w=.ok (.int k (gi l i)) w:=by
   have:=Fg k l i h1;simp[part,isAgg,bL he,this]
  have pm:(part e (vs k m).toArray (i*1)).run P w=.ok (.int k (gi m i)) w:=by
   have:=Fg k m i h2;simp[part,isAgg,bL he,this]
  simp only[Op.eqItems,aL,pl,pm,run_equalIn_int w d e k k _ _ he,aS,List.all_cons];cases hb:(gi l i==gi m i)
  .simp
  .simpa using ih
def Qw:∀(l m:ac),l.length=m.length->((List.range l.length).all λi=>gi l i==gi m i)=(l==m)
|[],[],_=>rfl
|x::xs,y::ys,h=>by
  have ih:=Qw xs ys (by simpa using h);rw[List.length_cons,List.range_succ_eq_map,List.all_cons,List.all_map];simp only[gi]at ih⊢;simp only[List.getD_cons_zero,Function.comp_def,List.getD_cons_succ,ih];simp[List.cons_beq_cons]
|[],_::_,h=>by simp at h
|_::_,[],h=>by simp at h
def Gj{w:World}(d:Nat)(hu:P.underlying t=some (.array n e))(he:P.underlying e=some (.int k))(hi:P.info? e=some i)(hc:P.cellsOf e=1)
  (l m:ac)(hl:l.length=n)(hm:m.length=n):(Op.equalIn (d+2) t (.agg (vs k l).toArray) (.agg (vs k m).toArray)).run P w=.ok (l==m) w:=by
 rw[show d+2=(d+1)+1 from rfl,run_equalIn_array w (d+1) _ _ hu hi,hc,Je d he (List.range n) l m (λj hj=>by have:=List.mem_range.1 hj;omega),<-Qw l m (by omega),hl]
def WM{w:World}(hu:P.underlying t=some (.array n e))(he:P.underlying e=some (.int k))(hi:P.info? e=some i)(hc:P.cellsOf e=1)
  (l m:ac)(hl:l.length=n)(hm:m.length=n):(binOp .eql t (.agg (vs k l).toArray) (.agg (vs k m).toArray)).run P w=.ok (.bool (l==m)) w:=by
 rw[run_eql_struct,Gj 9998 hu he hi hc l m hl hm];rfl
section steps
variable{ops:bl}{rest:bt}{o:Oper}{a:Act}{w0 w:World}{Q:Exit->aJ}{rs:ae}
def Ho(hm:Mem w0 w rs)(hgd:Region.wanted o (yielded ops a.tmps)=true)(ho:o.op=.box ty x)(hx:a.eval x=.agg cs)
  (h:∀w' g,Mem w0 w' ((g,cs)::rs)->wpList P ops Q rest (a.put o.dst (.pointer (some ⟨g,0,none⟩))) w'):wpList P ops Q (o::rest) a w:=by
 have hrun:(execOp a.eval o).run P w=.ok (.value (.pointer (some ⟨w.heap.size,0,none⟩))) (w.alloc (.cells cs ty)):=by
  unfold execOp;simp only[ho,hx,Instr.box,newVar,newRow,Value.cells,aL,bw];rfl
 exact A8 hgd hrun (h _ _ (hm.alloc cs ty))
def DF(hm:Mem w0 w rs)(hgd:Region.wanted o (yielded ops a.tmps)=true)(ho:o.op=.alloc ty)(hz:∀w,(zeroValue ty).run P w=.ok (.agg cs) w)
  (h:∀w' g,Mem w0 w' ((g,cs)::rs)->wpList P ops Q rest (a.put o.dst (.pointer (some ⟨g,0,none⟩))) w'):wpList P ops Q (o::rest) a w:=by
 have hrun:(execOp a.eval o).run P w=.ok (.value (.pointer (some ⟨w.heap.size,0,none⟩))) (w.alloc (.cells cs ty)):=by
  unfold execOp;simp only[ho,Instr.alloc,newVar,newRow,Value.cells,aL,bw,hz,aS];rfl
 exact A8 hgd hrun (h _ _ (hm.alloc cs ty))
def Ag(hgd:Region.wanted o (yielded ops a.tmps)=true)(ho:o.op=.load ty x)(hx:a.eval x=.pointer (some ⟨g,0,none⟩)) 
  (hr:AA w g cs)(ht:Aq P ty cs.size)(h:wpList P ops Q rest (a.put o.dst (.agg cs)) w):wpList P ops Q (o::rest) a w:=by
 have hrun:=Gp (P:=P) (off:=0) ho hx hr ht (by omega);rw[show cs.extract 0 (0+cs.size)=cs by simp]at hrun;exact A8 hgd hrun h
def P5{Q:Act->Prop}(hgd:Region.wanted o (yielded ops a.tmps)=true)(ho:o.op=.load ty x)(hx:a.eval x=.pointer (some ⟨g,0,none⟩)) 
  (hr:AA w g cs)(ht:Aq P ty cs.size)(h:wpStill P ops w Q rest (a.put o.dst (.agg cs))):wpStill P ops w Q (o::rest) a:=by
 have hrun:=Gp (P:=P) (off:=0) ho hx hr ht (by omega);rw[show cs.extract 0 (0+cs.size)=cs by simp]at hrun;exact IQ hgd hrun h
def AO(hgd:Region.wanted o (yielded ops a.tmps)=true)(ho:o.op=.load ty x)(hx:a.eval x=.pointer (some ⟨g,off,none⟩)){vs:ai}
  (hr:AA w g cs)(ht:Aq P ty vs.size)(hv:cs.extract off (off+vs.size)=vs)(hf:off+vs.size<=cs.size)(h:wpList P ops Q rest (a.put o.dst (.agg vs)) w):wpList P ops Q (o::rest) a w:=by
 have hrun:=Gp (P:=P) (off:=off) ho hx hr ht hf;rw[hv]at hrun;exact A8 hgd hrun h
def DC(i:Nat)(hm:Mem w0 w rs)(hgd:Region.wanted o (yielded ops a.tmps)=true)(ho:o.op=.store ty x y)(hx:a.eval x=.pointer (some ⟨g,0,none⟩)){vs:ai}(hy:a.eval y=.agg vs)
  (hi:rs[i]?=some (g,cs))(ht:Aq P ty vs.size)(hs:vs.size=cs.size)(h1:∀v∈vs,v.oneCell'=true)
  (h:∀w',Mem w0 w' (rs.set i (g,vs))->wpList P ops Q rest (a.put o.dst undef) w'):wpList P ops Q (o::rest) a w:=by
 have hrun:=Gn (P:=P) (off:=0) ho hx hy (hm.get i hi) ht rfl (by omega) h1;rw[pY cs vs hs]at hrun;exact FN hgd hrun (h _ (hm.setRow i vs hi))
def ET(P:Program)(ty:TypeId):Prop:=(∀w,(isAgg ty).run P w=.ok false w)/\(P.info? ty).map (·.size)=some 1
def MJ(ho:o.op=.load ty x)(hx:a.eval x=.pointer (some ⟨g,off,none⟩)){v:Value}
  (ht:ET P ty)(hc:w.cell? ⟨g,off,none⟩=some v):(execOp a.eval o).run P w=.ok (.value v) w:=by
 unfold execOp;simp only[ho,hx,Instr.loadAt,Instr.sureAddr,aL,bw,aS,loadVar,ht.1,Bool.false_eq_true,if_false,run_load,hc]
def OZ{Q:Act->Prop}(hgd:Region.wanted o (yielded ops a.tmps)=true)(ho:o.op=.load ty x)(hx:a.eval x=.pointer (some ⟨g,off,none⟩)){v:Value}
  (hr:AA w g cs)(ht:ET P ty)(hv:cs[off]?=some v)(h:wpStill P ops w Q rest (a.put o.dst v)):wpStill P ops w Q (o::rest) a:=
 IQ hgd (MJ ho hx ht ((hr.cell off).trans hv)) h
def sX(i:Nat)(hm:Mem w0 w rs)(hgd:Region.wanted o (yielded ops a.tmps)=true)(ho:o.op=.store ty x y)(hx:a.eval x=.pointer (some ⟨g,off,none⟩)){v:Value}(hy:a.eval y=v) 
  (hi:rs[i]?=some (g,cs))(ht:ET P ty)(hf:off<cs.size)(hc:v.cells=#[v])(h1:v.oneCell'=true)(hn:cs.setIfInBounds off v=ns)
  (h:∀w',Mem w0 w' (rs.set i (g,ns))->wpList P ops Q rest (a.put o.dst undef) w'):wpList P ops Q (o::rest) a w:=by
 have hr:=hm.get i hi;have hcell:w.cell? ⟨g,off,none⟩=some cs[off]:=by rw[hr.cell];simp[hf]
 have hst:(store ⟨g,off,none⟩ v).run P w=.ok () (w.setCell ⟨g,off,none⟩ v):=by
  rw[run_store P w _ v _ h1,hcell];simp[hr.free off]
 have hrun:(execOp a.eval o).run P w=.ok .skip (w.setCell ⟨g,off,none⟩ v):=by
  cases hq:P.info? ty with
 |none=>have:=ht.2;simp[hq]at this
 |some i=>
   have hs:i.size=1:=by have:=ht.2;simpa[hq]using this
   unfold execOp;simp only[ho,hx,hy,Instr.storeAt,Instr.sureAddr,aL,bw,aS,storeVar,hc,sizeOf,typeInfo,run_program,hq,hs];simp[storeCells,Addr.add_zero',hst,Result.andThen]
 refine FN hgd hrun (h _ ?_);rw[<-hn];exact hm.setCell i off v hi
end steps
def a09{o:Nat}:splice (B l) o (B m)=B (l.take o++m++l.drop (o+m.length)):=by
 apply Array.ext';simp[splice,B,vs,List.map_take,List.map_drop]
def nJ{a:Nat}:(B l).extract a b=B ((l.take b).drop a):=by
 apply Array.ext';simp[B,vs,List.map_take,List.map_drop,List.drop_take]
def a1k{ops:bl}{rest:bt}{o:Oper}{a:Act}{w0 w:World}{Q:Exit->aJ}{rs:ae}(i:Nat)(hm:Mem w0 w rs)(hgd:Region.wanted o (yielded ops a.tmps)=true) 
  (ho:o.op=.call {callee:=.builtin .copy,args:=#[x,y],argTypes:=#[t,t']})(hu:P.underlying t=some (.slice elem))(hs:(P.info? elem).map (·.size)=some 1)
  (hx:a.eval x=.slice (some ⟨g,off,none⟩) dLen dCap)(hy:a.eval y=.slice (some ⟨gs,os,none⟩) sLen sCap)
  {vs:ai}(hi:rs[i]?=some (g,cs))(hr:AA w gs cs2)(hn:vs.size=Nat.min sLen dLen)(hv:cs2.extract os (os+vs.size)=vs)(hfit:off+vs.size<=cs.size)(h1:∀v∈vs,v.oneCell'=true)(hns:splice cs off vs=ns)
  (h:∀w',Mem w0 w' (rs.set i (g,ns))->wpList P ops Q rest (a.put o.dst (.int .i64 vs.size)) w'):wpList P ops Q (o::rest) a w:=by
 obtain⟨tt,hg⟩:=hm.get i hi
 have hsrc:∀j v,vs.toList[j]?=some v->w.cell? ((⟨gs,os,none⟩:Addr).add j)=some v:=by
  intro j v hj;rw[Addr.add_lit,hr.cell];rw[<-hv]at hj;simp only[cE,Array.getElem?_extract]at hj;split at hj
  .exact hj
  .cases hj
 have hrun:=run_copy_row P w t t' o.type elem g off dLen dCap ⟨gs,os,none⟩ sLen sCap cs tt vs.toList hu hs hg (by simpa using hn) hsrc (by simpa using hfit) (λv hv=>h1 v (by simpa using hv));have e:(cs.toList.take off++vs.toList++cs.toList.drop (off+vs.toList.length)).toArray=ns:=by rw[<-hns];simp[splice]
 rw[e]at hrun
 have hrun':(execOp a.eval o).run P w=.ok (.value (.int .i64 vs.size)) (w.setRow g ns):=by
  unfold execOp;simp only[ho,resolve,invoke,builtin,aL,bw,aS,cM,List.map_cons,List.map_nil,hx,hy,hrun,goInt];simp
 exact A8 hgd hrun' (h _ (hm.setRow i ns hi))
def QY(v:Option Value)(d n:Nat):Prop:=(v=none/\n=d)\/∃z:Int,v=some (.int .i64 z)/\z=n
def run_sliceBound{w:World}{y:Nat}(c:BoundsCode)(h:n<=y):(Instr.sliceBound (.int .i64 n) y c).run P w=.ok n w:=by
 simp[Instr.sliceBound,asIntOf,show(n:Int)<=(y:Int) by omega,show(0:Int)<=(n:Int) by omega]
def QD{w:World}(b:Bool){len:Nat}(lo hi:Option Value)(hl:QY lo 0 L)(hh:QY hi len H)(h1:L<=H)(h2:H<=cap):
  (Instr.sliceBounds b len cap lo hi none).run P w=.ok (L,H,cap) w:=by
 rcases hl with⟨rfl,rfl⟩|⟨_,rfl,rfl⟩<;>rcases hh with⟨rfl,rfl⟩|⟨_,rfl,rfl⟩<;>simp[Instr.sliceBounds,aL,run_sliceBound,h1,h2,Option.isSome]
def Iq{o:Oper}{a:Act}{w:World}(ho:o.op=.slice ty x lo hi none){elem:Nat}(hu:P.underlying ty=some (.array n elem))(hs:(P.info? elem).map (·.size)=some 1)
  (hx:a.eval x=.pointer (some ⟨g,off,none⟩))(L H:Nat)(hl:QY (lo.map a.eval) 0 L)(hh:QY (hi.map a.eval) n H)(h1:L<=H)(h2:H<=n)(h3:L<n){len:Nat}(e1:off+L=off')(e2:H-L=len)(e3:n-L=cap):
  (execOp a.eval o).run P w=.ok (.value (.slice (some ⟨g,off',none⟩) len cap)) w:=by
 subst e1 e2 e3;have hb:=QD (P:=P) (w:=w) false _ _ hl hh h1 h2;cases hq:P.info? elem with
|none=>simp[hq]at hs
|some i=>
  have hi':i.size=1:=by simpa[hq]using hs
  unfold execOp;simp only[ho,hx,Instr.sliceAt,aL,bL hu,aS,Instr.sureAddr,bw,Option.map_none,hb,sizeOf,typeInfo,run_program,hq,hi'];simp[show¬n=L by omega,Addr.add_lit]
def Du{o:Oper}{a:Act}{w:World}(ho:o.op=.load ty x)(hx:a.eval x=.pointer (some ⟨g,0,none⟩)) 
  (hr:AA w g cs)(ht:Aq P ty cs.size):(execOp a.eval o).run P w=.ok (.value (.agg cs)) w:=by
 have h:=Gp (P:=P) (off:=0) ho hx hr ht (by omega);rwa[show cs.extract 0 (0+cs.size)=cs by simp]at h
def UN{o:Oper}{a:Act}{w:World}(ho:o.op=.binOp .eql t x y t')(hx:a.eval x=.agg (vs k l).toArray)(hy:a.eval y=.agg (vs k m).toArray)
  (hgt:P.eqGuardType P.depth t=false)(hu:P.underlying t=some (.array n e))(he:P.underlying e=some (.int k))(hi:P.info? e=some i)(hc:P.cellsOf e=1)(hl:l.length=n)(hm:m.length=n):
  (execOp a.eval o).run P w=.ok (.value (.bool (l==m))) w:=by
 unfold execOp;simp only[ho,hx,hy,aL,run_eqGuard_agg w .eql t x y _ _ hgt,aS,WM hu he hi hc l m hl hm,bw]
def Aa{o:Oper}{a:Act}{w:World}(ho:o.op=.load ty x)(hx:a.eval x=.pointer (some ⟨g,off,none⟩)){v:Value}
  (hr:AA w g cs)(ht:ET P ty)(hv:cs[off]?=some v):(execOp a.eval o).run P w=.ok (.value v) w:=MJ ho hx ht ((hr.cell off).trans hv)
def DZ{o:Oper}{a:Act}{w:World}{i:Nat}{v:Value}(ho:o.op=.index ty x y)(hx:a.eval x=.agg cs)(hy:a.eval y=.int k (i:Nat))
  (hu:P.underlying ty=some (.array n e))(he:ET P e)(hi:i<n)(hv:cs[i]?=some v):(execOp a.eval o).run P w=.ok (.value v) w:=by
 cases hq:P.info? e with
|none=>have:=he.2;simp[hq]at this
|some inf=>
  have hs:inf.size=1:=by have:=he.2;simpa[hq]using this
  have hp:(part e cs i).run P w=.ok v w:=by simp[part,aL,he.1,hv]
  unfold execOp;simp only[ho,hx,hy,Instr.index,asIntOf,aL,bw,aS,bL hu];rw[if_pos (by omega)];simp[sizeOf,typeInfo,hq,hs,hp]
def str(l:ac):ByteArray:=l.foldl (λr n=>r.push (UInt8.ofNat n.toNat)) ByteArray.empty
def KB{o:Oper}{a:Act}{w:World}{d:TypeId}(ho:o.op=.convert s d x)(hs:P.underlying s=some (.slice e))(he:P.underlying e=some (.int .u8))(hd:P.underlying d=some .string)
  (hx:a.eval x=.slice ad l.length c)(hn:ad=none->l=[])(hc:∀A,ad=some A->∀j u,(vs .u8 l)[j]?=some u->w.cell? (A.add j)=some u):
  (execOp a.eval o).run P w=.ok (.value (.string (str l))) w:=by
 unfold execOp;simp only[ho,hx,aL,run_convert_bytes_string w s d e ad l.length c hs he hd];cases ad with
|none=>
  rw[hn rfl];rfl
|some A=>
  have hl:=run_loadCells_list (P:=P) w A (vs .u8 l) (hc A rfl);rw[Ai]at hl;rw[run_bytesToString w A l.length c l (by rw[hl];rfl)];rfl
def uv{o:Oper}{a:Act}{w:World}(ho:o.op=.binOp .eql t x y t'){p q:ByteArray}(hx:a.eval x=.string p)(hy:a.eval y=.string q){b:Bool}(hb:(p.toList==q.toList)=b):
  (execOp a.eval o).run P w=.ok (.value (.bool b)) w:=by
 subst hb;unfold execOp;simp only[ho,hx,hy,eqGuard_at_string,aL,bw,aS];simp[binOp,Op.stringOp,Result.andThen]
def _root_.Go.RowKit.Hid.o{p:Prop}(h:Hid p):p:=h
instance:Coe Nat (Option Addr):=⟨λg=>some ⟨g,0,none⟩⟩
instance:Coe Nat Value:=⟨λg=>.pointer (some ⟨g,0,none⟩)⟩
end
section
variable{G:Prop}
def nD(h:G:=by
 go_enter func144,ntmps144;have hm:=Own.nil w0
 go_wp2_with(first
  |with_reducible refine wb hm ?_;clear hm;intro w g hm
  |with_reducible refine na ?_;(with_reducible refine wa _ hm Jz ?_;clear hm;intro w g2 hm)
  |with_reducible refine wl 3 1 hm ?_ (hv:=(by with_unfolding_all (first|exact(Cb HL.o)|exact(yt HL.o)|exact(E8 HL.o))))
  |with_reducible refine aM 141 1 hm ?_ (ht:=al (Bq HL.o))
  |with_reducible refine bE (t:=3) ?_;(first|refine Ad rfl (AZ 1 hm rfl rfl (Ac rfl) rfl (ot rfl) (by first|exact(Es HL.o)|exact(JX HL.o)|exact(Dz HL.o)) rfl rfl (by exact(IE HL.o)) ?_);clear hm;intro w hm;try simp only[puts,s2,List.set]at hm|refine Ad rfl (AZ 1 hm rfl rfl UU rfl (ot rfl) (by first|exact(Es HL.o)|exact(Dz HL.o)) rfl rfl (by first|exact(GY HL.o)|exact(GX HL.o)) ?_);clear hm;intro w hm;try simp only[puts,s2,List.set]at hm)
  |with_reducible refine ws 141 0 hm ?_ (ht:=al (Bq HL.o)) (hs:=al (Ce HL.o Az)) (h1:=al Di);clear hm;intro w hm)
 exact zv):G:=h
def Hn(h:G:=by
 refine Aaf hm 21 (.am [(0,false),(1,false),(2,false),(3,true),(4,false),(5,false),(6,false),(7,true),(8,false),(9,false),(10,true),(11,false),(12,false),(13,false),(14,false),(15,true),(16,false),(17,false),(18,false),(19,false),(20,false)] (.brk 21 22 .done)) rfl (by kernel_rfl) rfl (by kernel_rfl) (λ_ _ d _ _ h=>by cases d<;>exact h) ?_;clear hm;intro w hm;simp only[KT.am]
 iterate 3 refine kq ?_
 (first|refine eO rfl rfl (λW hm=>ld 0 hm.1 rfl rfl rfl (ot rfl) rfl) ?_|refine eO rfl rfl (λW hm=>ld 1 hm.1 rfl rfl rfl (ot rfl) rfl) ?_)
 try simp only[Act.put,s3]
 iterate 3 refine kq ?_
 (first|refine eO rfl rfl (λW hm=>ld 0 hm.1 rfl rfl rfl (ot rfl) rfl) ?_|refine eO rfl rfl (λW hm=>ld 1 hm.1 rfl rfl rfl (ot rfl) rfl) ?_)
 try simp only[Act.put,s3]
 refine bj rfl rfl (λW=>by go_simp;(first|rw[e2.out];done|rw[e2.out];rfl)) ?_
 try simp only[Act.put,s3]
 refine bj rfl rfl (λW=>db (k:=k) rfl HE.o rfl rfl rfl hkl) ?_
 try simp only[Act.put,s3]
 (first|refine eO rfl rfl (λW hm=>ld 1 hm.1 rfl rfl rfl (ot rfl) HC.o) ?_|refine eO rfl rfl (λW hm=>ld 0 hm.1 rfl rfl rfl (ot rfl) rfl) ?_)
 try simp only[Act.put,s3]
 iterate 4 refine kq ?_
 (first|refine eO rfl rfl (λW hm=>ld 0 hm.1 rfl rfl rfl (ot rfl) rfl) ?_|refine eO rfl rfl (λW hm=>ld 1 hm.1 rfl rfl rfl (ot rfl) rfl) ?_)
 try simp only[Act.put,s3]
 refine kq ?_
 refine bj rfl rfl (λW=>by go_simp;(first|rw[aZ _ (by omega)];done|rw[aZ _ (by omega)];rfl|rfl)) ?_
 try simp only[Act.put,s3]
 refine bj rfl rfl (λW=>by go_simp;(first|rw[aZ _ (by omega)];done|rw[aZ _ (by omega)];rfl|rfl)) ?_
 try simp only[Act.put,s3]
 refine kq ?_
 refine bj rfl rfl (λW=>db (k:=k) rfl HE.o rfl rfl rfl hkl) ?_
 try simp only[Act.put,s3]
 refine Em rfl rfl (SB 1 hm rfl rfl (Ac rfl) rfl (ot rfl) s1 rfl rfl rfl ?_)
 clear hm;intro w hm
 try simp only[puts,s2,List.set,List.eraseIdx,s3]at hm
 refine⟨λW=>dy _ _ W _ _,hm,?_⟩
 try simp only[Act.put,s3]
 refine Ba ?_;go_simp;rw[HO.o]at hm
 go_wp2_with(first
  |refine A8 rfl (ld 0 hm.1 rfl rfl rfl (ot rfl) rfl) ?_
  |refine A8 rfl (ld 1 hm.1 rfl rfl rfl (ot rfl) rfl) ?_
  |refine A8 rfl (ld 0 hm.1 rfl rfl rfl (ot rfl) rfl) ?_
  |refine A8 rfl (ld 1 hm.1 rfl rfl rfl (ot rfl) rfl) ?_
  |refine Ad rfl (SB 0 hm rfl rfl (Ac rfl) rfl (ot rfl) (by simp) rfl rfl rfl ?_);clear hm;intro w hm;try simp only[puts,s2,List.set,List.eraseIdx,s3]at hm
  |refine Ad rfl (SB 1 hm rfl rfl (Ac rfl) rfl (ot rfl) (by simp) rfl rfl rfl ?_);clear hm;intro w hm;try simp only[puts,s2,List.set,List.eraseIdx,s3]at hm
  |refine Ad rfl (SB 0 hm rfl rfl (Ac rfl) rfl (ot rfl) (by simp) rfl rfl rfl ?_);clear hm;intro w hm;try simp only[puts,s2,List.set,List.eraseIdx,s3]at hm
  |refine Ad rfl (SB 1 hm rfl rfl (Ac rfl) rfl (ot rfl) (by simp) rfl rfl rfl ?_);clear hm;intro w hm;try simp only[puts,s2,List.set,List.eraseIdx,s3]at hm)
 go_end0
 exact⟨⟨_,rfl⟩,_,_,by rw[HL.o];exact HX1.o,by simpa using hm⟩):G:=h
def Gk(h:G:=by
 have l1:({b with run:=N}:DS).l.length=256:=hl;have l2:({b with run:=N,dig:=b.dig+1}:DS).l.length=256:=hl;have hw:IntKind.i64.wrap (b.dig+1)=b.dig+1:=av;go_enter func174,ntmps174;have hm:=Own.nil w
 go_wp2_with(first
 |refine Ar hm rfl rfl rfl ?_;intro w1 g hm1;clear hm
 |refine AL hm1 rfl rfl Dc ?_;intro w2 g2 hm2;clear hm1
 |refine A8 rfl (Aa (off:=257) rfl rfl (hm2.row 1 rfl) DR (H7 hl)) ?_
 |refine A8 rfl (Aa (off:=258) rfl rfl (hm2.row 1 rfl) DR (MH hl)) ?_
 |(go_at_call 216;have _t:=hm2;refine(CA.o _).mono ?_;rintro e w3⟨rfl,hb3⟩;have hm3:=hm2.call hb3;clear hm2)
 |refine BL (v:=.int .i64 N) 1 hm3 rfl rfl rfl rfl rfl DR (Cp hl 1 (by omega)) rfl rfl (QQ hl) ?_;intro w4 hm4;simp only[List.set]at hm4;clear hm3
 |refine A8 rfl (Aa (off:=258) rfl rfl (hm4.row 1 rfl) DR (MH (b:={b with run:=N}) l1)) ?_
 |refine BL (v:=.int .i64 (b.dig+1)) 1 hm4 rfl rfl rfl rfl rfl DR (Cp (b:={b with run:=N}) l1 2 (by omega)) rfl rfl (YQ (b:={b with run:=N}) l1) ?_;intro w5 hm5;simp only[List.set]at hm5;clear hm4)
 refine D7 [(0,true),(1,true),(2,true),(3,true),(4,true),(5,true),(6,false),(7,true),(8,true)] (λW=>Below w.heap.size w W/\AA W g (V {b with run:=N,dig:=b.dig+1})) rfl (by kernel_rfl) rfl (by kernel_rfl) (λ_ _ d _ _ h=>by cases d<;>exact h) ⟨(hm5.drawn (w5.drawn+1)).below,(hm5.drawn (w5.drawn+1)).row 1 rfl⟩ ?_;have hn:=hm5.drawn (w5.drawn+1);generalize ({w5 with drawn:=w5.drawn+1}:FC)=wn at hn⊢;refine Ah rfl rfl (λW hW=>Du rfl rfl hW.2 (BJ (b:={b with run:=N,dig:=b.dig+1}) l2)) ?_;simp only[Act.put,s3];refine Ah rfl rfl (λW hW=>by go_simp;rfl) ?_;simp only[Act.put,s3];refine Ah rfl rfl (λW hW=>Aa (off:=257) rfl rfl hW.2 DR (H7 (b:={b with run:=N,dig:=b.dig+1}) l2)) ?_;simp only[Act.put,s3];refine Ah rfl rfl (λW hW=>by go_simp;rfl) ?_;simp only[Act.put,s3]
 refine Ah rfl rfl (λW hW=>Aa (off:=256) rfl rfl hW.2 DR (H8 (b:={b with run:=N,dig:=b.dig+1}) l2)) ?_;simp only[Act.put,s3];refine Ah rfl rfl (λW hW=>by go_simp;rfl) ?_;simp only[Act.put,s3];refine JE 0 hn rfl rfl rfl rfl rfl rfl (BJ (b:={b with run:=N,dig:=b.dig+1}) l2) (BR (b:={b with run:=N,dig:=b.dig+1}) l2 BF) ep (λw' h=>⟨h.below,h.row 1 rfl⟩) (λw6 hm6=>?_);simp only[Act.put];simp only[List.set]at hm6;refine Ah rfl rfl (λW hW=>by go_simp;rfl) ?_;simp only[Act.put,s3];refine Ah rfl rfl (λW hW=>by go_simp;rfl) ?_;simp only[Act.put,s3];refine IY ?_;go_simp;go_wp2;refine aD (Ae rfl rfl (hm6.row 0 rfl) (BJ (b:={b with run:=N,dig:=b.dig+1}) l2)) rfl ?_;exact⟨⟨_,rfl,.inl ⟨rfl,rfl⟩⟩,hm6.below⟩):G:=h
def ul(h:G:=by
 go_enter func137,ntmps137;have hm:=Own.nil w
 go_wp2_with(first
 |(with_reducible first|refine wa _ hm Ja ?_;clear hm;intro w g hm|refine wb hm ?_;clear hm;intro w g hm)
 |refine UV ?_;try(clear hm;intro w gp hm))
 refine aD (Ae rfl rfl (hm.row 0 rfl) (ag rfl)) rfl ?_
 exact cL):G:=h
def rq(h:G:=by
 clear hv hd ho;generalize D5 V M c=x at*;generalize EM M c=y at*;go_enter func101,ntmps101;have hm:=Own.nil w
 go_wp2_with(first
 |with_reducible refine pV ?_;(refine Ad rfl (BD hm rfl ?_);clear hm;intro w r hm hd)
 |with_reducible refine pN ?_;(refine Ad rfl (Bj hm hd rfl (Ac rfl) BP E5 underlying210 m7 (EY (by decide)) (BA rfl) (EU rfl) ?_);clear hm;intro w hm)
 |with_reducible refine jz (t:=211) ?_;(refine A8 rfl (BH rfl (Ac rfl) BP) ?_)
 |with_reducible refine gk ?_;(refine A8 rfl (Ez (v:=.func (.func 139) #[] #[]) 0 hm rfl (Ac rfl) (Ac rfl) rfl underlying210 m7 (EY (by decide)) (BA rfl) (Bh rfl rfl).1 (Bh rfl rfl).2) ?_)
 |refine UV ?_;try(clear hm;intro w gp hm))
 refine aD (Ae rfl rfl (hm.row 0 rfl) (ag rfl)) rfl ?_
 exact cL):G:=h
def sC(h:G:=by
 clear hv hd ho;generalize D5 V M c=x at*;generalize EM M c=y at*;go_enter func101,ntmps101;have hm:=Own.nil w
 go_wp2_with(first
 |with_reducible refine pV ?_;(refine Ad rfl (BD hm rfl ?_);clear hm;intro w r hm hd)
 |with_reducible refine pN ?_;(refine Ad rfl (Bj hm hd rfl (Ac rfl) BP E5 underlying210 m7 (EY (by decide)) (BA rfl) (EU rfl) ?_);clear hm;intro w hm)
 |with_reducible refine jz (t:=211) ?_;(refine A8 rfl (BH rfl (Ac rfl) BP) ?_)
 |with_reducible refine gk ?_;(refine A8 rfl (Ez (v:=.func (.func 140) #[] #[]) 0 hm rfl (Ac rfl) (Ac rfl) rfl underlying210 m7 (EY (by decide)) (BA rfl) (Bh rfl rfl).1 (Bh rfl rfl).2) ?_)
 |refine UV ?_;try(clear hm;intro w gp hm))
 refine aD (Ae rfl rfl (hm.row 0 rfl) (ag rfl)) rfl ?_
 exact cL):G:=h
def Mo(h:G:=by
 go_wp2_with fail
 obtain⟨m,hmm⟩:∃m,m=Nat.min bp (k-bp):=⟨_,rfl⟩;have hm0:1<=m/\m<=bp/\m<=k-bp:=by rw[hmm];simp only[uQ];split<;>omega
 have HMM:=aa hmm;clear hmm;have hwm:IntKind.i64.wrap ((bp:Int)+(m:Int))=(bp:Int)+m:=av;have hS8:Below w.heap.size w {wr with drawn:=wr.drawn+1}:=(hmr.drawn (wr.drawn+1)).below;refine D7 [(0,true),(1,true),(2,true),(3,true),(4,true),(5,true),(6,true),(7,false),(8,true),(9,true)] (λW=>Below w.heap.size w W) rfl (by kernel_rfl) rfl (by kernel_rfl) (λ_ _ d _ _ h=>by cases d<;>exact h) hS8 ?_;have hn:=hmr.drawn (wr.drawn+1);clear hS8;generalize ({wr with drawn:=wr.drawn+1}:FC)=wn at hn⊢;clear hmr;refine Ah rfl rfl (λW hW=>by go_simp;rfl) ?_;simp only[Act.put,s3];refine Ah rfl rfl (λW hW=>by go_simp;rfl) ?_;simp only[Act.put,s3];refine Ah rfl rfl (λW hW=>by go_simp;rfl) ?_;simp only[Act.put,s3];refine Ah rfl rfl (λW hW=>ew rfl HE.o rfl (.inr ⟨_,rfl⟩) (.inl ⟨rfl,rfl⟩) hbk (aX _)) ?_;rw[Le g k bp hlt]
 simp only[Act.put,s3];refine Ah rfl rfl (λW hW=>by go_simp;rfl) ?_;simp only[Act.put,s3];refine Ah rfl rfl (λW hW=>by go_simp;rfl) ?_;simp only[Act.put,s3];refine Ah rfl rfl (λW hW=>ew (l:=0) (h:=bp) rfl HE.o rfl (.inl ⟨rfl,rfl⟩) (.inr ⟨_,rfl⟩) (dD _) (by omega)) ?_;exact AW):G:=h
def tm(h:G:=by
 clear s1;go_enter func101,ntmps101;have hm:=Own.nil w
 go_wp2_with(first
 |with_reducible refine pV ?_;(refine Ad rfl (BD hm rfl ?_);clear hm;intro w r hm hd)
 |with_reducible refine pN ?_;(refine Ad rfl (Bj hm hd rfl (Ac rfl) BP E5 underlying210 m7 (EY (by decide)) (BA rfl) (EU rfl) ?_);clear hm;intro w hm)
 |with_reducible refine jz (t:=211) ?_;(refine A8 rfl (BH rfl (Ac rfl) BP) ?_)
 |with_reducible refine gk ?_;(refine A8 rfl (Ez (v:=.func (.func 141) #[] #[]) 0 hm rfl (Ac rfl) (Ac rfl) rfl underlying210 m7 (EY (by decide)) (BA rfl) (Bh rfl rfl).1 (Bh rfl rfl).2) ?_)
 |refine UV ?_;try(clear hm;intro w gp hm))
 refine aD (Ae rfl rfl (hm.row 0 rfl) (ag rfl)) rfl ?_
 exact cL):G:=h
def D3(h:G:=by
 clear hm;obtain⟨i,hi0,hi,rfl,rfl,rfl,hm⟩:=hrel;by_cases hlt:i<place
 .have hin:i<n:=by omega
  have HE:=aa (Jm col i (by rw[HL.o];exact hin) c);have hbd:=Fz (col.take i) c;have hlt2:=lC i col;rw[HL.o]at hlt2;have w4:IntKind.i64.wrap (eqn (col.take i) c+1)=eqn (col.take i) c+1:=av;have w5:IntKind.i64.wrap ((((i-t:Nat)):Int)+1)=(((i-t:Nat)):Int)+1:=av;have HY:Hid (((i+1-t:Nat):Int)=(((i-t:Nat)):Int)+1):=aa (by omega);have hin2:=hin;clear hbd hlt2;generalize (((i-t:Nat)):Int)=y1 at*;generalize eqn (col.take i) c=z1 at*;have CB1:Hid (∀W,Below w0.heap.size w0 W->ak 116 #[ga,.agg (SP a n),.int .i64 i] W (RB W (.tuple #[.int .u8 (gi col i),.bool true]))):=λW h=>CB.o W i h hin;generalize gi col i=x at*;by_cases hx:x=c
  .rw[aQ hx]at HE;subst hx;have p1:((c:Int)==(c:Int))=true:=by simp
   exact Nn
  .rw[aP hx,jf]at HE;have p1:(x==(c:Int))=false:=by simpa using hx
   clear hx
   exact Nn
 .obtain rfl:place=i:=by omega
  have HY:Hid (((place%d:Nat):Int)=(((place-t:Nat)):Int)):=aa (by rw[HR0.o]);generalize (((place-t:Nat)):Int)=y1 at*;generalize hz1:eqn (col.take place) c=z1 at*;have HZ1:=aa hz1;clear hz1;go_wp2;refine aD (fO rfl _ _ _) rfl ⟨by first|rw[HY.o];rfl|(rw[HY.o,HZ1.o];rfl),hm.below⟩):G:=h
def sP(h:G:=by
 go_enter func173,ntmps173;have hm:=Own.nil w
 go_wp2_with(first
 |refine Ar hm rfl rfl rfl ?_;intro w1 g hm1;clear hm
 |refine AO rfl rfl rfl (hm1.row 0 rfl) (F6 _ hl) (Ci hl) (NG hl) ?_
 |(go_at_call 215;have _t:=hm1;refine(CV.o _).mono ?_;rintro e w2⟨rfl,hb2⟩;have hm2:=hm1.call hb2;clear hm1)
 |refine A8 rfl (Aa (off:=256) rfl rfl (hm2.row 0 rfl) DR (H8 hl)) ?_
 |refine A8 rfl (Aa (off:=257) rfl rfl (hm2.row 0 rfl) DR (H7 hl)) ?_
 |refine A8 rfl (Aa (off:=258) rfl rfl (hm2.row 0 rfl) DR (MH hl)) ?_
  )
 go_ret;exact kZ):G:=h
def Ao(h:G:=by
 refine IL (fh 0 4 (fh 5 4 (.one 4 (fh 9 3 (.one 12 .done))))) (λW=>∃p,AA W ga (AR (.slice gd l.length l.length) (e:Int) p)) rfl (by kernel_rfl) rfl (by kernel_rfl) (λ_ _ d _ _ h=>by cases d<;>exact h) ⟨_,(hm7.drawn (w7.drawn+1)).row 2 rfl⟩ ?_;have k3:=hm7.drawn (w7.drawn+1);generalize ({w7 with drawn:=w7.drawn+1}:FC)=wn3 at k3⊢;clear hm7;simp only[fh]
 repeat((first
 |refine EW rfl rfl (λW hW=>by obtain⟨p,hp⟩:=hW;exact Aa (off:=1) rfl rfl hp DR lE) ?_
 |refine EW rfl rfl (λW hW=>by go_simp;rfl) ?_);(try simp only[Act.put,s3]))
 refine yh ?_;refine Ym rfl rfl (Aa (off:=2) rfl rfl (k3.row 2 rfl) DR L7) ⟨_,k3.row 2 rfl⟩ ?_;simp only[Act.put,s3];refine EW (v:=.int .i64 (imax peak (e:Int))) rfl rfl (λW hW=>by go_simp;rfl) ?_;simp only[Act.put,s3];refine EW rfl rfl (λW hW=>by go_simp;rfl) ?_;simp only[Act.put,s3];refine EW rfl rfl (λW hW=>by go_simp;rfl) ?_;simp only[Act.put,s3];refine yh ?_;refine a1A (v:=.int .i64 (imax peak (e:Int))) (off:=2) 2 k3 rfl rfl rfl rfl rfl rfl DR (by show 2<3;decide) rfl rfl (λw8 k4=>⟨_,k4.row 2 rfl⟩) (λw8 k4=>?_);simp only[List.set,PC]at k4;clear k3
 try simp only[Act.put]
 refine XI ?_;go_simp
 go_wp2_with(first
 |refine Ag rfl rfl rfl (k4.row 0 rfl) Eo ?_
 |refine AY 1 k4 rfl rfl rfl rfl rfl Eo rfl yw ?_;intro w9 k5;simp only[List.set]at k5;clear k4)
 refine aD (Af rfl rfl (k5.row 1 rfl) Eo) rfl ?_;exact⟨rfl,k5.dropRow.dropRow⟩):G:=h
def mj(h:G:=by
 have hm:=Own.nil w
 go_wp2_with(first
 |with_reducible refine cS ?_;(refine A8 rfl (D9 rfl rfl) ?_)
 |refine UV ?_;try(clear hm;intro w gp hm))
 refine aD (AQ rfl rfl (hm.row 0 rfl) Cm) rfl ⟨rfl,hm.below⟩):G:=h
def Ow(h:G:=by
 clear hm;intro w hm
 try simp only[puts,s2,List.set,List.eraseIdx,s3]at hm
 refine⟨λW=>Own _ W _ _,λ_ h=>h,hm.dropRow,?_⟩
 try simp only[Act.put,s3]
 iterate 2 refine kq ?_
 refine Ba ?_;go_simp
 go_wp2_with(first
  |go_at_call 81;refine cB WV hm ?_;clear hm;intro w1 hm
  |with_reducible refine bE (t:=88) ?_;(refine Ad rfl (Aj 3 hm rfl rfl (Ac rfl) rfl Gt (by rw[Bg HZ.o,JZ];decide) EH (Gu HZ.o rfl) ?_);clear hm;intro w hm;try simp only[puts,s2,List.set]at hm)
  |with_reducible refine aM 88 0 hm ?_
  |with_reducible refine bh (t:=74) ?_;(refine A8 rfl (cg 0 hm rfl rfl rfl (vs:=#[.int .i64 m2,.int .i64 p2,.int .u32 s2]) rfl (ag rfl) (show 3+3<=7 by decide)) ?_)
  |with_reducible refine wl 3 0 hm ?_
  |with_reducible refine bE (t:=134) ?_;(refine Ad rfl (Aj 3 hm rfl rfl (Ac rfl) rfl Cm (by rw[Bg HZ2.o];decide) Ei (Eh HZ2.o rfl) ?_);clear hm;intro w hm;try simp only[puts,s2,List.set]at hm)
  |with_reducible refine bE (t:=141) ?_;(refine Ad rfl (Aj 3 hm rfl rfl (Ac rfl) rfl yj (by rw[Bg HZ3.o,Ju];decide) XJ (LV HZ3.o Ju) ?_);clear hm;intro w hm;try simp only[puts,s2,List.set]at hm)
  |with_reducible refine cS (t:=76) ?_;(refine A8 rfl (Gy rfl rfl rfl) ?_)
  |with_reducible refine cS (t:=141) ?_;(refine A8 rfl (Kr rfl) ?_)
  |with_reducible refine ws 76 2 hm ?_ (h1:=al (Ak rfl));clear hm;intro w hm
   )
 exact iz):G:=h
def ue(h:G:=by
 go_enter func101,ntmps101;have hm:=Own.nil w
 go_wp2_with(first
 |with_reducible refine pV ?_;(refine Ad rfl (BD hm rfl ?_);clear hm;intro w r hm hd)
 |with_reducible refine pN ?_;(refine Ad rfl (Bj hm hd rfl (Ac rfl) BP E5 underlying210 m7 (EY (by decide)) (BA rfl) (EU rfl) ?_);clear hm;intro w hm)
 |with_reducible refine jz (t:=211) ?_;(refine A8 rfl (BH rfl (Ac rfl) BP) ?_)
 |with_reducible refine gk ?_;(refine A8 rfl (Ez (v:=.func (.func 138) #[] #[]) 0 hm rfl (Ac rfl) (Ac rfl) rfl underlying210 m7 (EY (by decide)) (BA rfl) (Bh rfl rfl).1 (Bh rfl rfl).2) ?_)
 |refine UV ?_;try(clear hm;intro w gp hm))
 refine aD (Ae rfl rfl (hm.row 0 rfl) (ag rfl)) rfl ?_
 exact cL):G:=h
def xd(h:G:=by
 go_enter func130,ntmps130;have hm:=Own.nil w
 go_wp2_with(first
 |refine Ar hm rfl rfl rfl ?_;intro w1 g hm1;clear hm
 |refine AL hm1 rfl rfl Dc ?_;intro w2 g2 hm2;clear hm1
 |refine Ag rfl rfl rfl (hm2.row 1 rfl) (BJ hl) ?_
 |(go_at_call 173;have _t:=hm2;refine(CV.o _).mono ?_;rintro e w3⟨rfl,hb3⟩;have hm3:=hm2.call hb3;clear hm2)
 |refine A8 rfl (Aa (off:=259) rfl rfl (hm3.row 1 rfl) n9 (Qm hl)) ?_
 |refine Ag rfl rfl rfl (hm3.row 1 rfl) (BJ hl) ?_
 |refine AY 0 hm3 rfl rfl rfl rfl rfl (BJ hl) (BR hl BF) ep ?_;intro w4 hm4;simp only[List.set]at hm4;clear hm3)
 exact J'):G:=h
def m9(h:G:=by
 go_wp2_with(first
 |with_reducible refine wb hm ?_;clear hm;intro w g hm
 |refine UV ?_;try(clear hm;intro w gp hm))
 all_goals(go_ret;exact⟨rb (by simp[DX, *]),hm.below⟩)):G:=h
def Mx(h:G:=by
 clear hm;intro w hm
 try simp only[puts,s2,List.set,List.eraseIdx,s3]at hm
 refine⟨λW=>Own _ W _ _,λ_ h=>h,hm.dropRow,?_⟩
 try simp only[Act.put,s3]
 iterate 2 refine kq ?_
 refine Ba ?_;go_simp
 go_wp2_with(first
  |go_at_call 87;refine cB WU hm ?_;clear hm;intro w1 hm
  |with_reducible refine bE (t:=88) ?_;(refine Ad rfl (Aj 3 hm rfl rfl (Ac rfl) rfl Gt (by rw[Bg HZ.o,JZ];decide) EH (Gu HZ.o rfl) ?_);clear hm;intro w hm;try simp only[puts,s2,List.set]at hm)
  |with_reducible refine aM 88 0 hm ?_
  |with_reducible refine bh (t:=74) ?_;(refine A8 rfl (cg 0 hm rfl rfl rfl (vs:=#[.int .i64 m2,.int .i64 p2,.int .u32 s2]) rfl (ag rfl) (show 3+3<=7 by decide)) ?_)
  |with_reducible refine wl 3 0 hm ?_
  |with_reducible refine bE (t:=134) ?_;(refine Ad rfl (Aj 3 hm rfl rfl (Ac rfl) rfl Cm (by rw[Bg HZ2.o];decide) Ei (Eh HZ2.o rfl) ?_);clear hm;intro w hm;try simp only[puts,s2,List.set]at hm)
  |with_reducible refine cS (t:=76) ?_;(refine A8 rfl (Gy rfl rfl rfl) ?_)
  |with_reducible refine ws 76 2 hm ?_ (h1:=al (Ak rfl));clear hm;intro w hm
   )
 exact iz):G:=h
def No(h:G:=by
 have HATW:Hid (∀(row told st:Int),(WK (.pointer ga) a n b m index d (tab 256 (aT (Jp l a n))) row told st)[7+c]?=some (.int .i64 (aT (Jp l a n) c))):=λrow told st=>by rw[Ss (by rw[Lm]) c hc1,NE _ hc1]
 obtain⟨q,hq⟩:∃q:Nat,q=p%d:=⟨_,rfl⟩;rw[<-hq]at CR b4⊢;have w3:IntKind.i64.wrap (1+(q:Int))=1+(q:Int):=av;have w4:IntKind.i64.wrap (st+(1+(q:Int)))=st+(1+(q:Int)):=av;rw[cP]at hm⊢;clear hS lim hq;generalize hZ1:aT (Jp l a n) c=z1 at*;generalize eqn ((Jp l a n).take p) c=z2 at*;generalize tab 256 (aT (Jp l a n))=less at*;go_enter func74,ntmps74
 go_wp2_with(first
 |go_at_call 70;refine cB (CR.o _ (hm.row 1 rfl) (hm.row 2 rfl)) hm ?_;clear hm;intro w1 hm
 |go_at_call 116;refine cB (CB.o _ (hm.row 1 rfl) (hm.row 2 rfl)) hm ?_;clear hm;intro w1 hm
 |with_reducible refine wl 3 0 hm ?_ (hv:=(by with_unfolding_all (first|exact(Eg HLL.o)|exact(HATW.o _ _ _))))
 |with_reducible refine wc 3 0 hm ?_ (hf:=al (Ct HLL.o)) (hn:=al (Is HLL.o));clear hm;intro w hm
 |refine UV ?_;try(clear hm;intro w gp hm))
 refine aD (fO rfl _ _ _) rfl ⟨rfl,hm⟩):G:=h
def cL(h:G:=by
 exact⟨rfl,hm.below⟩):G:=h
def sa(h:G:=by
 go_wp2_with(first
 |(go_at_call 124;have _t:=hm;refine(CT.o _ _ hm).mono ?_;clear _t hm CT;rintro x w⟨rfl,RR2,hQ,hm⟩)
 |with_reducible refine wa 76 hm BX ?_;clear hm;intro w g hm
 |refine UV ?_;try(clear hm;intro w gp hm))
 refine aD (Af rfl rfl (hm.row 1 rfl) Dw) rfl ⟨rfl,RR2,hQ,hm.dropRow.dropRow⟩):G:=h
def iz(h:G:=by
 refine aD (Af rfl rfl (hm.row 2 rfl) Dw) rfl ⟨rfl,RR2,hQ,hm.dropRow.dropRow.dropRow⟩):G:=h
def mi(h:G:=by
 refine aD (AQ rfl rfl (hm.row 1 rfl) Dw) rfl ?_;exact⟨_,_,_,_,_,_,_,R3,rfl,hJ (by trivial),hm.dropRow.dropRow.J9⟩):G:=h
def lz(h:G:=by
 obtain⟨m,hlt,hIm⟩:=hN (by trivial);have hm3:=hm.dropRow;exact⟨⟨m,R3,hIm,hm3⟩,jK (Fv ⟨R3,hIm,hm3⟩) hlt⟩):G:=h
def Km(h:G:=by
 clear hC
 go_wp2_with(first
 |((with_reducible refine g5 ?_);refine uT [] [] hm ?_;clear hm;intro w _ hm)
 |refine vJ m ?_
 |((with_reducible refine g7 ?_);refine uM (hr:=En.tail (En.app HR1.o)) (hl:=.one (ot rfl) hc0) ?_)
 |refine Ad rfl (pT hm rfl HE.o (Ac rfl) rfl rfl ?_);clear hm;intro w gb hm
 |(refine Ad rfl (GR (A:=[_,_]) (X:=Y) hm rfl HE.o (Ac rfl) HY.o (Ac rfl) (λW h=>From.two (h.row 0 rfl)) (oR rfl rfl) (by omega) (by omega) (by omega) ?_);clear hm;intro Y2 v2 w hY2 hm;obtain⟨ad3,c5,rfl⟩:=hY2.shape;have HY2:=aa hY2;clear hY2)
 |refine U ?_;try(clear hm;intro w _ hm))
 go_roundw
 case rel=>exact⟨j+1,m,Y2,by omega,by omega,by go_num,rfl,aa (by rw[HS.o,HM2.o]),by rw[HS.o,HM2.o,r8,<-gG];exact HY2.o,hm.dropRow.dropRow⟩
 case measure=>simp[intOf];omega):G:=h
def J0(h:G:=by
 go_roundw
 case rel=>exact⟨i,(bc col (Iw ix r)).toNat,k+1,_,crc a [[gi col (Iw ix r)]],cs2,rfl,HW2.o,by omega,by omega,by have:=HC0.o;omega,by rw[show col.length-(k+1)=i by omega];have:=HTl.o;omega,by rw[show col.length-(k+1)=i by omega];exact HVl.o,by rw[show col.length-(k+1)=i by omega];exact HXl.o,hm⟩
 case measure=>exact jK (Fv (n:=i) ⟨(bc col (Iw ix r)).toNat,k+1,_,crc a [[gi col (Iw ix r)]],cs2,rfl,HW2.o,by omega,by omega,by have:=HC0.o;omega,by rw[show col.length-(k+1)=i by omega];have:=HTl.o;omega,by rw[show col.length-(k+1)=i by omega];exact HVl.o,by rw[show col.length-(k+1)=i by omega];exact HXl.o,hm⟩) (by rw[HJ.o];omega)):G:=h
def x6(h:G:=by
 clear hf hg;go_enter func182,ntmps182;have hm:=Own.nil w
 go_wp2_with(first
 |(with_reducible first|refine wa _ hm Ja ?_;clear hm;intro w g hm|refine wb hm ?_;clear hm;intro w g hm)
 |refine UV ?_;try(clear hm;intro w gp hm))
 refine aD (Ae rfl rfl (hm.row 0 rfl) (ag rfl)) rfl ?_
 exact⟨by rw[e1.out];rfl,hm.below⟩):G:=h
def eA(h:G:=by
 go_ret;exact⟨rfl,rfl⟩):G:=h
def LA(h:G:=by
 rw[FY]at h⊢;split at h
 .rename_i h0;rw[aQ h0];obtain⟨a1,a2,a3,a4,_⟩:=TL h0.1;have hr:=jl a3;split at h
  .rename_i h1;rw[aQ h1];rw[G9]at h1⊢;split at h1
   .rename_i h2;rw[aQ h2];exact⟨by simp,a1,λhf=>by rw[h0.2.1]at hf;cases hf⟩
   .rename_i h2;rw[aP h2];split at h1
    .rename_i h3;rw[aQ h3];have h1:=eF h1;exact⟨by simp only;omega,by simp,λ_=>rfl⟩
    .rename_i h3;rw[aP h3];split at h1
     .cases h1
     .rename_i h4;rw[aP h4];exact⟨by simp only[aV,rU];omega,by simp only;omega,λhf=>by cases hf⟩
  .cases h
 .cases h):G:=h
def dk(h:G:=by
 simp[SA,Act.put,a1h h,slot_ne]):G:=h
def Ck(h:G:=by
 go_enter func173,ntmps173;have hm:=Own.nil w
 go_wp2_with(first
 |refine Ar hm rfl rfl rfl ?_;intro w1 g hm1;clear hm
 |refine AO rfl rfl rfl (hm1.row 0 rfl) (F6 _ hl) (Ci hl) (NG hl) ?_
 |(go_at_call 215;have _t:=hm1;refine(CV.o _).mono ?_;rintro e w2⟨rfl,hb2⟩;have hm2:=hm1.call hb2;clear hm1)
 |refine A8 rfl (Aa (off:=256) rfl rfl (hm2.row 0 rfl) DR (H8 hl)) ?_
 |refine A8 rfl (Aa (off:=257) rfl rfl (hm2.row 0 rfl) DR (H7 hl)) ?_
  )
 go_ret;exact kZ):G:=h
def GT(h:G:=by
 have HR:Hid (Dt L 0 0 (dNew m) l [] 0=Dt L q2 i2 b (l.drop (k+1)) out (k+1)):=aa (by rw[hR];simp);clear hR CE HV2 hT HD
 go_wp2_with(first
  |(with_reducible first|refine aM 143 0 hm ?_ (ht:=al (DT HL.o))|refine ws 143 2 hm ?_ (ht:=al (DT HL.o)) (hs:=al (jN HL.o HL.o)) (h1:=al Eb);clear hm;intro w hm))
 go_roundw
 case rel=>exact⟨k+1,q2,i2,b,out,X,E,by omega,by go_num,HP2.o,HV.o,hO,hO0,HX.o,HR.o,hm.dropRow⟩
 case measure=>simp[intOf];omega):G:=h
def rl(h:G:=by
 clear s1;go_enter func183,ntmps183;have hm:=Own.nil w
 go_wp2_with((go_at_call 100;refine MW (FX _ _ _ _) ?_))
 go_ret;exact⟨rb (by simp[*]),hm.below⟩):G:=h
def Bb(h:G:=by
 have hm:=Mem.nil w
 go_wp2_with(first
  |refine Ho (by assumption) rfl rfl rfl ?_;intro w1 g1 hm1
  |refine DF (by assumption) rfl rfl QZ ?_;intro w2 g2 hm2
  |refine Ag rfl rfl rfl (Mem.get (by assumption) 1 rfl) (F6 l Hl.o) ?_
  |refine DC 0 (by assumption) rfl rfl rfl rfl rfl (F6 l Hl.o) (QI Hl.o DK) Ut ?_;intro w3 hm3;simp only[List.set]at hm3)
 refine aD (Ae rfl rfl (hm3.get 0 rfl) (F6 l Hl.o)) rfl ⟨rfl,hm3.below⟩):G:=h
def Pi(h:G:=by
 go_wp2_with(first
 |((with_reducible refine g1 ?_);refine uL hm (hl:=gM hll) ?_)
 |((with_reducible refine g2 ?_);refine uS hm (hl:=x' hll hll) ?_;clear hm;intro w _ hm)
 |refine U ?_;try(clear hm;intro w _ hm))
 replace hm:=hm.sub (bG A _) (aY _);replace hm:=hm.dropRow;replace hm:=hm.sub (bG X0 _) (aY _);refine aD (Af rfl rfl (hm.row 1 rfl) (F5 hll)) rfl ⟨by rw[HQ.o];rfl,hm.dropRow.dropRow.dropRow⟩):G:=h
def BE(h:G:=by
 go_enter func110,ntmps110;have hm:=Own.nil w
 go_wp2_with(first
 |(go_at_call 11;refine(F' HS.o).mono ?_;rintro e w1⟨rfl,hb1⟩;rw[HE.o];have hm1:=hm.call hb1;clear hm))
 go_ret2
 exact ow):G:=h
def qf(h:G:=by
 go_roundw
 case rel=>exact⟨k+1,by omega,by go_num,by rw[hT2];exact hm⟩
 case measure=>simp[intOf];omega):G:=h
def OL(h:G:=by
 go_enter func173,ntmps173;have hm:=Own.nil w
 go_wp2_with(first
 |refine Ar hm rfl rfl rfl ?_;intro w1 g hm1;clear hm
 |refine AO rfl rfl rfl (hm1.row 0 rfl) (F6 _ hl) (Ci hl) (NG hl) ?_
 |(go_at_call 215;have _t:=hm1;refine(CV.o _).mono ?_;rintro e w2⟨rfl,hb2⟩;have hm2:=hm1.call hb2;clear hm1)
 |refine A8 rfl (Aa (off:=256) rfl rfl (hm2.row 0 rfl) DR (H8 hl)) ?_
  )
 go_ret;exact kZ):G:=h
def mq(h:G:=by
 simp only[Nat.reduceAdd,Nat.reduceSub,Int.reducePow]at*;omega):G:=h
def Be(h:G:=by
 go_enter func128,ntmps128;have hm:=Own.nil w
 go_wp2_with(first
 |refine AL hm rfl rfl Dc ?_;intro w2 g2 hm2;clear hm
 |refine Ag rfl rfl rfl (hm2.row 0 rfl) (BJ BF) ?_
 |refine AY 0 hm2 rfl rfl rfl rfl rfl (BJ BF) (BR BF BF) ep ?_;intro w4 hm4;simp only[List.set]at hm4;clear hm2)
 refine aD (AQ rfl rfl (hm4.row 0 rfl) (BJ BF)) rfl ?_;exact⟨rfl,hm4.below⟩):G:=h
def Ab(h:G:=by
 go_enter func42,ntmps42;have hm:=Own.nil w
 go_wp2_with(first
 |(go_at_call 94;refine(mT n 2 3 _ rfl rfl).mono ?_;rintro e w1⟨⟨r1,rfl,ho1⟩,hb1⟩;rw[HE.o];have hm1:=hm.call hb1;clear hm)
 |(go_at_call 96;refine(FJ 3 (by omega) (by omega)).mono ?_;rintro e w2⟨rfl,hb2⟩;have hm2:=hm1.call hb2;clear hm1))
 go_ret2
 exact kZ):G:=h
def G3(h:G:=by
 refine kq ?_
 refine Em rfl rfl (Aw 0 hm rfl rfl (Ac rfl) rfl (Bq HM.o) (Ce HM.o Az) Di ?_)
 clear hm;intro w hm
 try simp only[puts,s2,List.set,List.eraseIdx,s3]at hm
 refine⟨λW=>Own _ W _ _,hm,?_⟩
 try simp only[Act.put,s3]
 refine kq ?_;refine Ba ?_;go_simp;go_wp2;refine aD (Af rfl rfl (hm.row 0 rfl) (Bq HM.o)) rfl ⟨rfl,hm.below⟩):G:=h
def vn(h:G:=by
 rcases hF.2 with⟨rfl,rfl,rfl⟩|⟨ad,c,rfl,hc⟩
 .exact Go.Src.ofNil w he.under 0
 .exact Go.Src.ofSlice w he.under ad k c news (by rw[he.size];exact hF.1) hc h1):G:=h
def Fm(h:G:=by
 go_enter func42,ntmps42;have hm:=Own.nil w
 go_wp2_with(first
 |(go_at_call 94;refine(mT n 2 1 _ rfl rfl).mono ?_;rintro e w1⟨⟨r1,rfl,ho1⟩,hb1⟩;rw[HE.o];have hm1:=hm.call hb1;clear hm)
 |(go_at_call 96;refine(I1).mono ?_;rintro e w2⟨rfl,hb2⟩;have hm2:=hm1.call hb2;clear hm1))
 go_ret2
 exact kZ):G:=h
def J1(h:G:=by
 go_enter func42,ntmps42;have hm:=Own.nil w
 go_wp2_with(first
 |(go_at_call 94;refine(mT n 2 2 _ rfl rfl).mono ?_;rintro e w1⟨⟨r1,rfl,ho1⟩,hb1⟩;rw[HE.o];have hm1:=hm.call hb1;clear hm)
 |(go_at_call 96;refine(At).mono ?_;rintro e w2⟨rfl,hb2⟩;have hm2:=hm1.call hb2;clear hm1))
 go_ret2
 exact kZ):G:=h
def Mu(h:G:=by
 rcases kl.find w hl es.toList (λe hm=>hks (e.key,e.val) (h1 e hm))with⟨f1,f2⟩|⟨j,e0,f1,f2,f3⟩
 .obtain⟨p,hp,rfl⟩:=hin;obtain⟨e,hme,hke⟩:=h2 p hp;exact absurd hke (f2 e hme)
 .have hv':=hv _ (h1 e0 (dT f2)) f3;simp only at hv';simp[Instr.lookup,bL hu,mP he,kl.check w _ hl,f1,Result.andThen,hv']):G:=h
def ut(h:G:=by
 go_wp2;simp only[Exit.jump];refine aD (fO rfl _ _ _) rfl ?_;rw[HRes.o];exact⟨X,_,rfl,HX.o,hm.sub ((((jF (aY X) (bG Y rs)).cons _).cons _).cons _) (aY _)⟩):G:=h
def Jx(h:G:=by
 refine grow _ c (by omega) ?_ rfl;refine zA (P:=P) w.drew i.size n _ n c xs (by rw[he.size];exact hX.1) ?_;intro j u hj;have hi:(A++([(g,cells)]++rs))[A.length]?=some (g,cells):=by simp
 have hrow:AA w.drew g cells:=Own.row (hm.drawn (w.drawn+1)) _ hi;have hjl:=(gI.1 hj).1;rw[fQ,hrow.cell,hcells j hjl];exact hj):G:=h
def zR(h:G:=by
 have hm:=Own.nil w
 go_wp2_with(first
 |refine Xe hm rfl rfl rfl rfl ?_;intro w1 g1 hm1;clear hm)
 exact tz):G:=h
def tp(h:G:=by
 unfold execOp;simp only[ho,resolve,invoke,builtin,aL,bw,aS,cM,bT,bZ,hx,hy,hr]):G:=h
def M8(h:G:=by
 have hck:wr.cell? ⟨Bn,0,none⟩=some (.int .i64 now):=by rw[hck];exact congrArg (λz=>some (Value.int .i64 z)) (by omega)
 obtain⟨fn,tmps,assign,body,hy,hR⟩:=hY pre 0 wr hJs (by omega)
 gi_wp2
 refine hR.mono ?_;rintro e W3⟨rfl,hJ3,_⟩
 gi_wp2
 go_end0
 exact⟨⟨_,rfl⟩,by rw[hx];exact hJ3⟩):G:=h
def Pd(h:G:=by
 have hS:=Sub.ij (C:=wZ t) (l:=cK t 258)
 go_wp2_with(first
 |go_at_call 236;refine MP (AbD hC HN.o (by omega) (λx hx=>by have:=sI x hx;omega) hm) ?_;clear hm;intro w1 hm
 |refine U ?_;try(clear hm;intro w _ hm))
 go_ret;refine⟨g,c,T,?_,?_⟩
 .rw[OV,hS.len,HN.o];rfl
 .exact hm.AeE):G:=h
def E7(h:G:=by
 have hm:=Own.nil w
 go_wp2_with(first
 |refine Ar hm rfl rfl rfl ?_;intro w1 g hm1;clear hm
 |refine Ag rfl rfl rfl (hm1.row 0 rfl) (F5 hl) ?_
 |(go_at_call 249;have _t:=hm1;refine(CS.o _).mono ?_;rintro e w2⟨rfl,hb2⟩;have hm2:=hm1.call hb2;clear hm1))
 go_ret;exact kZ):G:=h
def Kl(h:G:=by
 go_wp2_with(first
 |refine A8 rfl (DZ rfl rfl rfl underlying139 FV hlt hg) ?_
 |refine A8 rfl (cg 0 hm rfl rfl rfl (Jv HL.o) (F5 HL.o) (L9 HL.o)) ?_
 |refine UV ?_;try(clear hm;intro w gp hm))
 exact Bs):G:=h
def AF(h:G:=by
 go_enter func73,ntmps73
 go_wp2_with(first
 |go_at_call 120;refine cB (CW.o _ (hm.row 1 rfl) (hm.row 2 rfl)) hm ?_;clear hm;intro w1 hm
 |go_at_call 67;refine MP (CY.o _ hm) ?_;clear hm;intro w hm
 |refine UV ?_;try(clear hm;intro w gp hm))
 refine aD (fO rfl _ _ _) rfl ⟨rfl,hm⟩):G:=h
def Pb(h:G:=by
 go_roundw
 case rel=>first|exact⟨k+1,n+1,ad,c,by omega,by go_num,rfl,aa (by rw[HZ.o,aV,HN.o];rfl),by omega,by rw[HZ.o];simpa[vs]using hm⟩|exact⟨k+1,n,ad,c,by omega,by go_num,rfl,aa (by rw[HZ.o];exact HN.o),by omega,by rw[HZ.o];exact hm⟩
 case measure=>simp[intOf];omega):G:=h
def Er(h:G:=by
 refine Ah rfl rfl (λW hW=>by go_simp;rfl) ?_;simp only[Act.put,s3];refine IY ?_;go_simp;go_wp2;go_ret;exact⟨by rw[HO.o];rfl,hm9.below⟩):G:=h
def Kb(h:G:=by
 refine callsIn_of_wp_marks func233 rfl h34 ?_ hro;simp only[ntmps233,gX,bD,bW,Nat.reduceAdd,Nat.reduceSub,jV,jW,jX,jZ,iY,eG];have bO:=Boxed.new w 124 (.slice none 0 0);have hc:=bO.cell;have hf:=bO.frozen
 gi_wp2
 exact⟨_,Cz rfl rfl Mf bO,rfl,(Below.refl _ w).alloc (aX _) _⟩):G:=h
def GG(h:G:=by
 have hr:=hst.out (λh=>by omega)
 go_wp2_with(first
 |refine A8 rfl (Am (k:=k) rfl HE.o rfl rfl rfl hlt) ?_
 |refine A8 rfl (AU rfl rfl (ot rfl) (HA.o _ hm)) ?_
 |refine U ?_;try(clear hm;intro w gt hm))
 exact AT):G:=h
def JS(h:G:=by
 go_enter func94,ntmps94;have hm:=Own.nil w
 go_wp2_with(first
 |(go_at_call 135;refine(nk).mono ?_;rintro e w1⟨⟨r,rfl,hH⟩,hb1⟩;have hm1:=hm.call hb1;clear hm)
 |refine A8 rfl (nQ rfl rfl rfl hH HS.o HM.o HP.o) ?_)
 go_ret2
 exact⟨⟨_,rfl,oJ _ _ _ _⟩,hm1.below⟩):G:=h
def pA(h:G:=by
 refine aD (Af rfl rfl (hm.row 0 rfl) Dw) rfl ⟨rfl,RR2,hQ,hm.dropRow⟩):G:=h
def nE(h:G:=by
 exact TX rfl rfl rfl (Zm rfl rfl rfl rfl hr) ⟨rfl,h1,h2⟩):G:=h
def rS(h:G:=by
 refine fin _ ?_ (λh=>?_)
 .exact tB
 .simp only at h;omega):G:=h
def rG(h:G:=by
 go_roundw
 case rel=>exact⟨k+1,by omega,by go_num,hm7⟩
 case measure=>simp[intOf];omega):G:=h
def nv(h:G:=by
 obtain⟨ad2,cp2,he,hc⟩:=hv W h;cases he;exact hc k hk):G:=h
def JP(h:G:=by
 clear n1 ap fit four lim big byt hal i1;go_enter func67,ntmps67
 go_wp2_with(first
 |go_at_call 116;refine cB (CB.o _ (hm.row 1 rfl) (hm.row 2 rfl)) hm ?_;clear hm;intro w1 hm
 |refine UV ?_;try(clear hm;intro w gp hm))
 go_ret2
 exact⟨rfl,hm⟩):G:=h
def Lt(h:G:=by
 by_cases h:k=i
 .subst h;by_cases h2:k<256
  .simp[h2]
  .simp[h2]
 .simp only[h,jq];by_cases h2:i<256
  .rw[kY h2];simp only[jE,oG];by_cases h3:i<k
   .rw[aQ h3,aQ (by omega)]
   .rw[aP h3,aP (by omega)]
  .rw[iQ (by rw[jT];omega)];rfl):G:=h
def Ms(h:G:=by
 go_wp2_with(first
 |go_at_call 109;refine MP (CM.o _ hm) ?_;clear hm;intro w hm
 |refine U ?_;try(clear hm;intro w gp hm))
 go_roundw
 case rel=>exact⟨k+1,_,by omega,by omega,by go_num,rfl,hm⟩
 case measure=>simp[intOf];omega):G:=h
def rh(h:G:=by
 go_wp2_with(refine UV ?_;try(clear hm;intro w gp hm))
 go_ret2
 exact⟨rfl,hm⟩):G:=h
def DO(h:G:=by
 have HO:=aa (SR s0 s1 c0 c1);go_enter func141,ntmps141;have hm:=Own.nil w
 go_wp2_with(refine UV ?_;try(clear hm;intro w gp hm))
 refine aD (Af rfl rfl (hm.row 0 rfl) (ag rfl)) rfl ?_
 exact⟨by rw[<-HO.o];rfl,hm.below⟩):G:=h
def Mt(h:G:=by
 have:=HH.o;go_roundw
 case rel=>first|exact⟨k-1,i,h,by omega,by omega,by omega,by omega,rfl,rfl,HR.o,hm⟩|exact⟨k-1,h+1,j,by omega,by omega,by omega,by omega,by go_num,rfl,HR.o,hm⟩
 case measure=>simp[intOf];omega):G:=h
def Nt(h:G:=by
 refine⟨150,enters_of func150 (by kernel_rfl) rfl,Bh rfl rfl,rfl,λw rs ss hm=>(PY hx hxn hE.n2 hE.k0 hE.ks hE.s0 hN hE.N2 hE.l1 hE.l2 hb hm).mono ?_⟩;rintro e w'⟨l',rfl,h,hm⟩;exact⟨0,l',rfl,h,by omega,hm⟩):G:=h
def EQ(h:G:=by
 have hs:i.size=1:=by have:=ht.2;simpa[hq]using this
 unfold execOp;simp only[ho,hx,hy,Instr.storeAt,Instr.sureAddr,aL,bw,aS,storeVar,hc,sizeOf,typeInfo,jL,hq,hs];simp[storeCells,y5,hst,Result.andThen]):G:=h
def nL(h:G:=by
 go_wp2;go_ret;exact⟨by rw[<-HZ.o];rfl,hm⟩):G:=h
def gR(h:G:=by
 go_ret;exact⟨rfl,hm⟩):G:=h
def Pk(h:G:=by
 by_cases hj:j<n
 .rw[kY hj];by_cases e:i=j
  .subst e;simp[hj]
  .rw[aP e];simp[show¬j=i from λh=>e h.symm]
 .rw[iQ (by simpa using hj)];by_cases e:i=j
  .subst e;simp[hj]
  .rw[aP e];simp):G:=h
def Nf(h:G:=by
 rintro e W2⟨⟨v,rfl⟩,hi,hl,hk⟩;exact⟨none,_,run_endLoop (P:=P) hl (by simp[rec']),hdone _ _ (aX _) (hI.putObj _ hi (by omega) hl rfl) ((World.putObj_heap_other (by omega)).trans hk)⟩):G:=h
def BW(h:G:=by
 go_enter func177,ntmps177;have hm:=Own.nil w
 go_wp2_with(first
 |refine A3v hm rfl rfl rfl rfl rfl ?_;intro w1 g1 hm1;clear hm)
 exact tz):G:=h
def Gr(h:G:=by
 refine⟨?_,(Below.heap_alloc _ _ _ (by simp)).trans (World.alloc_heap_new w _)⟩;have:=World.alloc_heap_new (w.alloc (.deferred (some []))) (.loop (rec' .ready none));rwa[qN]at this):G:=h
def p9(h:G:=by
 exact⟨⟨_,rfl,Ml (hm2.get 0 rfl)⟩,hm2.below⟩):G:=h
def NT(h:G:=by
 simp only[MT.step]at e
 repeat' split at e
 all_goals cases e
 .simp only[gn];omega
 .rename_i ho hd;have h2:¬(x=128/\M=0):=by have:=eF ho;exact this.1
  simp only[gn,EM,aP h2];omega):G:=h
def ON(h:G:=by
 go_enter func51,ntmps51
 go_wp2_with(first
 |go_at_call 108;refine MP (CL.o _ hm) ?_;clear hm;intro w hm
 |refine U ?_;try(clear hm;intro w gp hm))
 go_ret2
 exact⟨_,_,rfl,HR.o,hm⟩):G:=h
def x7(h:G:=by
 go_wp2_with(refine UV ?_;try(clear hm;intro w gp hm))
 all_goals(go_ret;exact⟨rfl,hm⟩)):G:=h
def qJ(h:G:=by
 obtain⟨p,hp,e⟩:=eX.1 hm;have:=(h.mem.rows p hp).lt;omega):G:=h
def MU(h:G:=by
 obtain rfl:k=bp:=by omega
 go_wp2_with fail
 go_ret;exact⟨⟨g,cells,by rw[fp];rfl,hmr.row 0 rfl,hmr.mem.own _ (eP ..),by rw[fp,HT.o];simp[vs]⟩,hmr.below⟩):G:=h
def LF(h:G:=by
 obtain⟨Q,rfl,_⟩:=HS2.o.apart;have hX:=HX.o;clear HNX HS2 HZ hz HC;go_wp2
 all_goals(refine aD (X7 rfl) rfl ?_;exact⟨X,_,rfl,hX,hm.sub (bG Q X) (aY _)⟩)):G:=h
def MA(h:G:=by
 rename_i s c2;have hnb:=hW.nb b1 b2;refine⟨⟨hW.bk,hW.no,hW.hd,hW.ob⟩,λo h=>h,jG _,?_⟩;rw[aQ he,aQ hb];show s.W<=s.W+(2*(s.nn*s.cH)+s.cH);omega):G:=h
def mU(h:G:=by
 go_ret;exact⟨rfl,hm.dropRow⟩):G:=h
def Co(h:G:=by
 simp only[Exit.jump];refine aD (fO rfl _ _ _) rfl ?_;rw[HRes.o];exact⟨X,_,rfl,HX.o,hm.sub (((jF (aY X) (bG Y rs)).cons _).cons _) (aY _)⟩):G:=h
def P9(h:G:=by
 have hkz:Hid (k=z):=aa (by omega);clear hz;go_wp2;refine aD (wS rfl _ _ _) rfl ?_;exact⟨rfl,by rw[HBS.o,<-hkz.out,<-HR.o];exact hm⟩):G:=h
def Ok(h:G:=by
 refine aD (fO rfl _ _ _) rfl ?_;rw[HRN.o];exact⟨by decide,rfl,hm.sub (((((bG X rs).trans (bG Y _)).trans (bG Z _)).cons _)) (aY _)⟩):G:=h
def Fw(h:G:=by
 exact⟨λh=>absurd h hne,λh=>absurd h hne,h.hn,λh=>absurd h hne,h.all,λ_=>cU.of (h.hn _ _ hd).1 (h.hn _ _ hd).2 hG'.symm⟩):G:=h
def GP(h:G:=by
 have hS:=hsrc ();rcases hS.kind with⟨e',hk⟩|hk<;>simp[Builtin.append_,bL he.under,bL hk,sizeOf,typeInfo,he.info,hS.len,hS.cells]):G:=h
def Ke(h:G:=by
 go_roundw
 case rel=>exact⟨k+1,X,u,by omega,by go_num,by rw[hL1];exact HX.o,by rw[hL1];exact hm⟩
 case measure=>simp[intOf];omega):G:=h
def Ch(h:G:=by
 by_cases he:r=index
 .simp only[aQ he];exact XV hW h hr (hw r hr) h0 h1 he
 .simp only[aP he];exact SC hW h hr (hw r hr) h0 h1 he):G:=h
def Cx(h:G:=by
 rintro e w'⟨X2,v2,l',rfl,hX2,h1,h2,h3⟩;refine⟨X2,v2,l',rfl,hX2,h1,h2,?_⟩;rw[aI];exact h3.perm (iy X2 [_,_,_,_] (X++rs))):G:=h
def ur(h:G:=by
 simp[Instr.fill,Value.cells,he.size,newRow,hz,Result.andThen,hr,J,vs]):G:=h
def xV(h:G:=by
 refine aD (Af rfl rfl (hm.row 0 rfl) Dw) rfl ⟨rfl,hm.dropRow⟩):G:=h
def IF(h:G:=by
 simp only[AB];split<;>exact⟨λt h=>(by cases h),λn h=>(by cases h),λe _ h=>(by cases h),λh=>(by cases h)⟩):G:=h
def NL(h:G:=by
 go_roundw
 case rel=>exact⟨k+1,by omega,by go_num,by rw[HE2.o],by rw[hT2];exact hm⟩
 case measure=>simp[intOf];omega):G:=h
def Hh(h:G:=by
 go_roundw
 case rel=>exact⟨k+1,by omega,by go_num,by rw[HM.o];exact hm.dropRow⟩
 case measure=>simp[intOf];omega):G:=h
def NF(h:G:=by
 refine⟨?_,jK (Fv ⟨_,hIj,hm.dropRow⟩) hjn⟩
 repeat apply Exists.intro
 exact⟨⟨j,_,hIj,hm.dropRow⟩,rfl⟩):G:=h
def xe(h:G:=by
 rw[<-aI,<-aI];exact List.perm_append_comm.append_right _):G:=h
def uk(h:G:=by
 unfold execOp;simp[ho,hx,hy,eqGuard,binOp,h,Result.andThen]):G:=h
def Gc(h:G:=by
 exact⟨λt h=>(by cases h),λn h=>(by cases h),λe _ h=>(by cases h),λh=>(by first|rfl|cases h)⟩):G:=h
def B6(h:G:=by
 refine aD (Af rfl rfl (hm.row 3 rfl) Dw) rfl ⟨_,X,RR2,rfl,hX,hQ,hm.dropRow.dropRow.dropRow.dropRow⟩):G:=h
def tD(h:G:=by
 go_enter func72,ntmps72;go_wp2
 go_ret2
 exact⟨rfl,rfl⟩):G:=h
def Hk(h:G:=by
 refine hfree m om hm hmi ?_ hno;by_cases hjm:j=m
 .subst hjm;exact hjun
 .rw[gu true hjm]at hun;exact hun):G:=h
def Av(h:G:=by
 rcases h.2 with⟨rfl,h0⟩|⟨g,cap,cur,rfl,_⟩
 .exact⟨none,0,by rw[h0]⟩
 .exact⟨_,_,rfl⟩):G:=h
def KK(h:G:=by
 rcases bF a 258 with h|h
 .exact Tk hl hk h
 .have h2:t[a]?=none:=iQ (by omega);simp[gi,List.getD,h2]):G:=h
def N5(h:G:=by
 have h0:=(mJ.1 hr).1;rcases bF i l.size with h'|h'
 .simp[h']at h0⊢;exact h0
 .simp[ug h']at h0):G:=h
def Bk(h:G:=by
 exact⟨λt h=>(by cases h),λn h=>(by cases h),λe _ h=>(by cases h),λh=>(by cases h)⟩):G:=h
def Bt(h:G:=by
 have h4:(R.drop (j/8)).take 1=[gi R (j/8)]:=by
  rw[jg h3,wC,mO];simp[gi,h3]
 rw[h4];simp[big]):G:=h
def xb(h:G:=by
 exact⟨hB,by simp only[bm,Zb,Cf.rm]at*;omega⟩):G:=h
def P4(h:G:=by
 have:=HB.o p (HP.o.mem_iff.1 (jB hp));exact vD (nW this.1 this.2.1) (nW this.2.2.1 this.2.2.2)):G:=h
def Ge(h:G:=by
 exact grow none 0 (by omega) (by simpa using run_firstCells_none (P:=P) w.drew i.size 0 0 0) rfl):G:=h
def OR(h:G:=by
 by_cases h:0<gi t k
 .exact .inl ⟨h,by rw[cK,aQ h]⟩
 .exact .inr ⟨h,by rw[cK,aP h]⟩):G:=h
def Lw(h:G:=by
 rintro x w'⟨rfl,hm2⟩;exact⟨rfl,_,⟨X,E,v,used,rfl,ht,hB,hl,hj2,hu0,hu⟩,hm2.Xj⟩):G:=h
def Lq(h:G:=by
 have:b=0\/b=1\/b=2\/b=3:=by omega
 rcases this with rfl|rfl|rfl|rfl<;>simp at hp⊢<;>omega):G:=h
def Kh(h:G:=by
 rintro x w'⟨rfl,hm2⟩;exact⟨rfl,_,⟨X,E,_,used,rfl,ht,hB,hl,hj,hu0,hu⟩,hm2.Nh⟩):G:=h
def KV(h:G:=by
 go_roundw
 case rel=>exact⟨k+1,by omega,by go_num,hm3⟩
 case measure=>simp[intOf];omega):G:=h
def MM(h:G:=by
 go_roundw
 case rel=>exact⟨k+1,by omega,by go_num,hmr⟩
 case measure=>simp[intOf];omega):G:=h
def It(h:G:=by
 rintro x w'⟨rfl,RR',hQ,hm⟩;exact bx.bad (by simp[br,starved,AB,hj]) hm hz.five hQ):G:=h
def O0(h:G:=by
 split
 .exact this
 .split
  .split
   .rw[cO];exact this
   .exact this
  .split<;>exact this):G:=h
def yd(h:G:=by
 go_wp2;go_ret;exact⟨by rw[<-HB.o];rfl,hm⟩):G:=h
def sY(h:G:=by
 simp only[ho,hx,hy,aL,hr,aS,bw]):G:=h
def Id(h:G:=by
 unfold execOp;simp only[ho,Instr.alloc,newVar,newRow,Value.cells,aL,bw,hz,aS];rfl):G:=h
def G4(h:G:=by
 rw[es];have ek:((w.next.k:Nat):Int)=(w.k:Int)+1:=by simp[Wk.next]
 rw[ek];exact hm):G:=h
def Lz(h:G:=by
 simp only[Dk.be,Dk.fu,hk];exact⟨by trivial,by omega,λh=>by omega,by omega⟩):G:=h
def Pt(h:G:=by
 exact⟨by kernel_rfl,by kernel_rfl,by kernel_rfl,by kernel_rfl,by kernel_rfl⟩):G:=h
def Kk(h:G:=by
 simp only[MT.step]at e
 repeat' split at e
 all_goals cases e
 simp only[gn];omega):G:=h
def G'(h:G:=by
 obtain⟨X,hX,hm⟩:=(h.fG hb ho').y3;rw[Ai]at hX;exact⟨X,v,rfl,hX,hm⟩):G:=h
def Fl(h:G:=by
 exact aD (Af rfl rfl (hm.row 0 rfl) (ag rfl)) rfl ⟨l',rfl,hEO,hm.dropRow⟩):G:=h
def re(h:G:=by
 go_ret;exact kZ):G:=h
def rg(h:G:=by
 rw[<-aI,<-aI];exact a0l _ gK):G:=h
def AM(h:G:=by
 exfalso;rw[Pol.cm,aP h3,Pol.cm,aP h2,Pol.cm,aP h1,Pol.cm]at h;cases h):G:=h
def IP(h:G:=by
 obtain⟨A,rfl,hA⟩:=hc i hi;exact⟨A,rfl,(hb.cell (iK hA)).trans hA⟩):G:=h
def F1(h:G:=by
 refine aD (wK rfl _ _ _) rfl ⟨⟨_,by rw[<-HR.o];rfl⟩,hm.dropRow⟩):G:=h
def ow(h:G:=by
 exact⟨rfl,hm1.below⟩):G:=h
def Bu(h:G:=by
 subst hji;exact hy.wpOp hi ⟨λh=>hS (by rwa[gu false hik]at h),H⟩):G:=h
def A4(h:G:=by
 exact⟨rfl,by rw[<-HR.o];exact hm⟩):G:=h
def E6(h:G:=by
 refine aD (Ae rfl rfl (hm.row 0 rfl) (DT HL.o)) rfl ⟨rfl,hm.below⟩):G:=h
def zv(h:G:=by
 refine aD (Af rfl rfl (hm.row 0 rfl) (Bq HL.o)) rfl ⟨rfl,hm.below⟩):G:=h
def K8(h:G:=by
 rw[dA,zB,tZ,he.zs,gX,hlen,<-oh];exact Nat.le_of_eq (by congr 1;omega)):G:=h
def GB(h:G:=by
 simp[Lit.wf,IntKind.min,IntKind.max,IntKind.signed,IntKind.bits];omega):G:=h
def Mi(h:G:=by
 simp at hj;subst hj;rw[y5];exact(hW.below.cell (iK HA.o)).trans HA.o):G:=h
def OH(h:G:=by
 exact⟨o,v,hl _ eP,.inl ⟨hw,hrun⟩,h λp hp=>hl p (fB _ hp)⟩):G:=h
def Ca(h:G:=by
 refine aD (Qj rfl rfl (hm.row 0 rfl) Dw) rfl ⟨rfl,hm.dropRow⟩):G:=h
def E3(h:G:=by
 cases ev<;>obtain⟨h1,h2⟩:=hE<;>first|exact⟨rfl,h2⟩|omega):G:=h
def Or(h:G:=by
 have:=Om L _ _ _ _ _ _ _ _ hc;show G _ _ _ _=G _ _ _ _
 congr 2
 omega):G:=h
def Ks(h:G:=by
 exact Sub.eU (h.gg (by omega) (by omega)) (by omega) (by omega)):G:=h
def Cn(h:G:=by
 obtain rfl:k=258:=by omega
 go_wp2;go_ret;exact⟨rfl,hmr.below⟩):G:=h
def B5(h:G:=by
 simp[Instr.fill,Value.cells,he.size,newRow,hz,Result.andThen,hr]):G:=h
def BI(h:G:=by
 rintro x w'⟨rfl,RR',hQ,hm⟩;exact bx.bad rfl hm hz.five hQ):G:=h
def GJ(h:G:=by
 split
 .exact .inl ⟨by simp,by simp,rfl,rfl⟩
 .exact .inl rfl):G:=h
def xT(h:G:=by
 cases e;rename_i h0 _;subst h0;simp):G:=h
def Mk(h:G:=by
 rintro x w'⟨rfl,hm⟩;exact⟨rfl,Own.nd (A:=_::_) hm⟩):G:=h
def N1(h:G:=by
 rw[aQ h1,aQ (by omega),show i-o=(i-(o+1))+1 by omega,l7]):G:=h
def B3(h:G:=by
 exact⟨by omega,by omega,hc.st0 c,by have:=hc.st1;omega⟩):G:=h
def sK(h:G:=by
 simp only[Dk.fu,hb];omega):G:=h
def N6(h:G:=by
 intro f' hf';simp[Target.leads]at hf';subst hf';exact hFg):G:=h
def Dm(h:G:=by
 obtain⟨ad2,cp2,he,hc⟩:=HI.o W h;cases he;exact hc k hk):G:=h
def LL(h:G:=by
 exact j1 rfl hg (λW=>ix rfl he hx hy hz hk) (hb▸h)):G:=h
def rL(h:G:=by
 simp only[Dk.W,hk];omega):G:=h
def AW(h:G:=by
 rw[Ig];simp only[Act.put,s3];have hm4:=hn.setRow 0 (splice cells bp (List.replicate m (Value.int .u8 c)).toArray) rfl;simp only[List.set]at hm4;refine RS rfl rfl (Jl (xs:=List.replicate m (.int .u8 c)) rfl underlying22 ml rfl rfl (hn.row 0 rfl) (by rw[fp,HMM.o];try rfl) (λj u hj=>by obtain⟨rfl,hjm⟩:=SY hj;exact Iz (hn.row 0 rfl) j (a0s HT.o (by omega))) (by rw[fp];omega) (λu hu=>by rw[ni hu];rfl)) hm4.below ?_;rw[fp];simp only[Act.put,s3];refine Ah rfl rfl (λW hW=>by go_simp;rfl) ?_
 simp only[Act.put,s3];refine Ah rfl rfl (λW hW=>by go_simp;rfl) ?_;simp only[Act.put,s3];refine IY ?_;have hts:=GH (m:=m) HT.o;have hss:=GK (cs:=cells) (bp:=bp) (m:=m) (v:=.int .u8 c) (by omega);clear hn HMM;go_simp;go_wp2;go_roundw
 case rel=>exact⟨bp+m,_,by omega,by omega,by go_num,by rw[hss];exact hN2,hts,hm4⟩
 case measure=>simp[intOf];omega):G:=h
def I6(h:G:=by
 have hm:=Own.nil w
 go_wp2_with(refine UV ?_;try(clear hm;intro w gp hm))
 refine aD (Ae rfl rfl (hm.row 0 rfl) (ag rfl)) rfl ?_
 exact cL):G:=h
def sf(h:G:=by
 go_enter func142,ntmps142;have hm:=Own.nil w
 go_wp2_with(first
 |go_at_call 100;refine MW (FX _ _ _ _) ?_
 |refine UV ?_;try(clear hm;intro w gp hm))
 go_ret;exact cL):G:=h
def mS(h:G:=by
 go_enter func216,ntmps216;exact vj):G:=h
def AC(h:G:=by
 clear hm;intro w hm
 try simp only[puts,s2,List.set,List.eraseIdx,s3]at hm
 refine⟨λW=>Own _ W _ _,λ_ h=>h,hm.dropRow,?_⟩
 try simp only[Act.put,s3]
 iterate 2 refine kq ?_
 refine Ba ?_;go_simp
 go_wp2_with(first
  |with_reducible refine bE (t:=88) ?_;(refine Ad rfl (Aj 3 hm rfl rfl (Ac rfl) rfl Gt (by rw[Bg HZ.o,JZ];decide) EH (Gu HZ.o rfl) ?_);clear hm;intro w hm;try simp only[puts,s2,List.set]at hm)
  |(with_reducible first|refine aM 88 0 hm ?_|refine ws 76 2 hm ?_ (h1:=al (Ak rfl));clear hm;intro w hm|refine aM 76 1 hm ?_))
 exact iz):G:=h
def Mp(h:G:=by
 go_enter func167,ntmps167;have hm:=Own.nil w0
 go_wp2_with(first
  |go_at_call 209;refine cB (CB.o _) hm ?_;clear hm;intro w1 hm
  |go_at_call 211;refine cB (CK.o _) hm ?_;clear hm;intro w1 hm
  |go_at_call 210;refine MW (JH _ _ _ _) ?_
  |with_reducible refine wb hm ?_;clear hm;intro w g hm
  |with_reducible refine wl 3 0 hm ?_ (hv:=(by with_unfolding_all (first|exact(CJ HL.o)|exact(Cb HL.o)|exact(yt HL.o)|exact(E8 HL.o))))
  |with_reducible refine aM 141 0 hm ?_ (ht:=al (Bq HL.o))
   )
 go_ret;exact cL):G:=h
def xf(h:G:=by
 go_enter func136,ntmps136;have hm:=Own.nil w
 go_wp2_with(first
 |go_at_call 100;refine MW (CW.o _) ?_
 |with_reducible refine wb hm ?_;clear hm;intro w g hm
 |refine UV ?_;try(clear hm;intro w gp hm))
 go_ret;exact cL):G:=h
def L4(h:G:=by
 have CV:Hid (∀w,ak 136 #[.agg (HS 3 V M 0)] w (RB w (.bool true))):=λw=>Tn hv hM0 hM hV;have CG:=λw=>hgrow V M c 65536 hv hM0 hM hV c0 c1 w;simp only[ho,hd]at CG;have CG:=aa CG;clear hv;generalize D5 V M c=x at*;generalize EM M c=y at*;clear ho;clear hd;exact K'):G:=h
def tf(h:G:=by
 rw[r2,show decide (n<=most/\(128<=c\/0<n))=false by exact aU (by omega)];rw[r2]at CS;clear k1 k2 k3;exact ul):G:=h
def AI(h:G:=by
 have hm:=Own.nil w
 go_wp2_with(refine UV ?_;try(clear hm;intro w gp hm))
 refine aD (Af rfl rfl (hm.row 1 rfl) (ag rfl)) rfl ?_
 exact cL):G:=h
def Pw(h:G:=by
 clear hm;intro w hm
 try simp only[puts,s2,List.set,List.eraseIdx,s3]at hm
 refine⟨λW=>Own _ W _ _,λ_ h=>h,hm.dropRow,?_⟩
 try simp only[Act.put,s3]
 iterate 2 refine kq ?_
 refine Ba ?_;go_simp
 go_wp2_with(first
  |go_at_call 125;refine MP (CW.o hm) ?_;clear hm;intro w hm
  |with_reducible refine ws 76 2 hm ?_ (h1:=al (Ak rfl));clear hm;intro w hm)
 exact iz):G:=h
def xo(h:G:=by
 go_enter func138,ntmps138;have hm:=Own.nil w
 go_wp2_with(refine UV ?_;try(clear hm;intro w gp hm))
 refine aD (Af rfl rfl (hm.row 0 rfl) (ag rfl)) rfl ?_
 exact cL):G:=h
def Nn(h:G:=by
 go_wp2_with(first
  |go_at_call 116;refine cB (CB1.o _ hm.below) hm ?_;clear hm;intro w1 hm
  |with_reducible refine aM 50 1 hm ?_ (ht:=al Eo))
 go_roundw
 case rel=>exact⟨i+1,by omega,by omega,by go_num,by rw[HE.o],by rw[HY.o],hm⟩
 case measure=>simp[intOf];omega):G:=h
def C3(h:G:=by
 go_enter func4,ntmps4;have hm:=Own.nil w
 go_wp2_with(first
 |go_at_call 15;refine MP (CS.o _ _ _ _ (by first|exact .inl rfl|exact .inr rfl) hm) ?_;clear hm;intro w1 hm
 |go_at_call 9;refine cB (HLV.o _) hm ?_;clear hm;intro w1 hm)
 go_ret;exact cL):G:=h
def po(h:G:=by
 go_wp2_with(refine UV ?_;try(clear hm;intro w gp hm))
 exact eA):G:=h
def ze(h:G:=by
 rw[r2,show decide (n<=most/\(128<=c\/0<n))=true by exact aW (by omega)];rw[r2]at CS;clear k1 k2 k3;exact ul):G:=h
def M0(h:G:=by
 have hm:=Own.nil w
 go_wp2_with(first
 |go_at_call 64;refine cB (vZ (HR.o _ hm.below) (by omega) (by omega) (by omega) (by omega)) hm ?_;clear hm;intro w1 hm
 |refine U ?_;try(clear hm;intro w g hm))
 go_ret;exact cL):G:=h
def te(h:G:=by
 go_wp2_with(refine UV ?_;try(clear hm;intro w gp hm))
 go_ret;exact cL):G:=h
def yL(h:G:=by
 go_enter func207,ntmps207
 go_wp2_with(first
 |go_at_call 248;refine MW (CN.o _ _) ?_)
 exact eA):G:=h
def y7(h:G:=by
 try simp only[Act.put,s3]
 iterate 2 refine kq ?_
 refine Ba ?_;go_simp;go_wp2;go_ret;exact cL):G:=h
def Ax(h:G:=by
 have q2:decide (0<=W)=true:=aW W0;have q3:decide (W<=32)=true:=az;clear v1;go_enter func241,ntmps241;have hm:=Own.nil w;go_wp2;go_ret;exact cL):G:=h
def tP(h:G:=by
 go_enter func96,ntmps96;exact vj):G:=h
def kZ(h:G:=by
 exact⟨rfl,hm2.below⟩):G:=h
def tz(h:G:=by
 go_ret;exact⟨⟨_,rfl,Ml (hm1.get 0 rfl)⟩,hm1.below⟩):G:=h
def J'(h:G:=by
 refine aD (EJ rfl rfl (hm4.row 0 rfl) (BJ hl)) rfl ?_;exact⟨⟨_,rfl,.inl ⟨rfl,rfl⟩⟩,hm4.below⟩):G:=h
def J2(h:G:=by
 simp only[Act.put,s3];refine Ah rfl rfl (λW hW=>by go_simp;rfl) ?_;simp only[Act.put,s3];exact Er):G:=h
def Bs(h:G:=by
 go_roundw
 case rel=>exact⟨k+1,by omega,by go_num,hm⟩
 case measure=>simp[intOf];omega):G:=h
def L5(h:G:=by
 obtain⟨v',w',hr,hK⟩:=hh;refine Eff.val (v:=v') (w':=w') ?_ hK;exact tp):G:=h
def xa(h:G:=by
 go_enter func100,ntmps100;go_wp2;exact eA):G:=h
def vv(h:G:=by
 go_enter func119,ntmps119;go_wp2;exact eA):G:=h
def xI(h:G:=by
 go_enter func210,ntmps210;go_wp2;exact eA):G:=h
def xG(h:G:=by
 go_enter func212,ntmps212;go_wp2;exact eA):G:=h
def y6(h:G:=by
 go_enter func277,ntmps277;go_wp2;exact eA):G:=h
def tB(h:G:=by
 simp only[fI,fP];(repeat' split)<;>omega):G:=h
def AT(h:G:=by
 refine aD (wK rfl _ _ _) rfl ⟨⟨_,by rw[<-hr];rfl⟩,hm.dropRow⟩):G:=h
def MY(h:G:=by
 have HS:=aa hs;clear hs;have HE:=aa he;clear he;exact BE):G:=h
def Mr(h:G:=by
 have CG:=λw=>hgrow V M c m hv hM0 hM (by omega) c0 c1 w;simp only[hd]at CG;have CG:=aa CG;clear hv;generalize D5 V M c=x at*;generalize EM M c=y at*;generalize EL V M c m=z at*;clear hd;go_enter func140,ntmps140;exact AI):G:=h
def Lv(h:G:=by
 have CG:=λw=>hgrow V M c n hv hM0 hM (by omega) c0 c1 w;simp only[hd]at CG;have CG:=aa CG;clear hv;generalize D5 V M c=x at*;generalize EM M c=y at*;generalize EL V M c n=z at*;clear hd;go_enter func139,ntmps139;exact AI):G:=h
def LD(h:G:=by
 have b3:¬(k:Int)<0:=by omega
 have b4:¬(30:Int)<k:=by omega
 have hp:=KF k hk;have w1:wrap64 (2*2^k:Int)=2*2^k:=fl (by omega);have w2:wrap64 (n+2*2^k)=n+2*2^k:=fl (by omega);clear hp;exact mS):G:=h
def Lk(h:G:=by
 have b3:¬(k:Int)<0:=by omega
 have b4:¬(30:Int)<k:=by omega
 have hp:=KF k hk;have w1:wrap64 (2^k:Int)=2^k:=fl (by omega);have w2:wrap64 (n+2^k)=n+2^k:=fl (by omega);clear hp;exact mS):G:=h
def K'(h:G:=by
 go_enter func98,ntmps98;have hm:=Own.nil w
 go_wp2_with(refine UV ?_;try(clear hm;intro w gp hm))
 refine aD (Ae rfl rfl (hm.row 1 rfl) (ag rfl)) rfl ?_
 exact cL):G:=h
def o3(h:G:=by
 go_enter func98,ntmps98;exact I6):G:=h
def Ay(h:G:=by
 have CS:Hid (∀w,ak 183 #[.int .u32 s,.int .i64 k] w (RB w (.bool true))):=λw=>A1r k0 k1 s0 s1;clear s1;exact sf):G:=h
def vj(h:G:=by
 have hm:=Own.nil w
 go_wp2_with fail
 go_ret2
 exact cL):G:=h
def Al(h:G:=by
 have r2:decide (c<128)=true:=aW k2;have r3:decide (0<n)=false:=aU k3;exact tf):G:=h
def FP(h:G:=by omega):G:=h
def FU(h:G:=by decide):G:=h
def FZ(h:G:=by kernel_rfl):G:=h
def G5(h:G:=by simp):G:=h
def Gx(h:G:=by with_unfolding_all exact rfl):G:=h
def G6(h:G:=by cases h):G:=h
def G8(h:G:=by simp;omega):G:=h
def gJ(h:G:=by(try simp only[Act.put,s3]);rfl):G:=h
def Gm(h:G:=by with_unfolding_all (first|exact lw|exact lN)):G:=h
def Gq(h:G:=by assumption):G:=h
def Gs(h:G:=by simp[hc]):G:=h
def N7(h:G:=by repeat(first|with_reducible exact En.head|with_reducible apply En.tail|with_reducible apply En.app)):G:=h
def Gw(h:G:=by rw[hev.1];decide):G:=h
def GN(h:G:=by simp[Ai,hl]):G:=h
def GU(h:G:=by simpa using h):G:=h
def GV(h:G:=by simp only[cM,bT,bZ,hx,hy];kernel_rfl):G:=h
def N8(h:G:=by first|assumption|simp[Ey];done):G:=h
def GZ(h:G:=by exact Au d0):G:=h
def H9(h:G:=by rw[fZ];omega):G:=h
def Hq(h:G:=by first|omega|simp only[cO];omega):G:=h
def Nb(h:G:=by decide+kernel):G:=h
def Hu(h:G:=by rw[hc]):G:=h
def Hw(h:G:=by simpa using hs):G:=h
def I4(h:G:=by rw[aI]at h;exact h):G:=h
def I7(h:G:=by intro h;cases h):G:=h
def I8(h:G:=by rw[<-cE];exact ho):G:=h
def Ii(h:G:=by simpa using h3):G:=h
def Io(h:G:=by rwa[<-cE]):G:=h
def Ip(h:G:=by simp only[cM,bT,bZ,hx];kernel_rfl):G:=h
def IB(h:G:=by rw[HSL.o];omega):G:=h
def IC(h:G:=by simp[Ai,hless]):G:=h
def IV(h:G:=by rw[he.bytes];exact hb):G:=h
def Nj(h:G:=by intro g;(try simp only[Act.put,s3]);rfl):G:=h
def Nk(h:G:=by(intro _ _ d _ _ h;cases d<;>exact h)):G:=h
def J3(h:G:=by rw[he.size];omega):G:=h
def J5(h:G:=by rw[pS hl];omega):G:=h
def J7(h:G:=by exact hm):G:=h
def Jc(h:G:=by exact hm.dropRow):G:=h
def Jg(h:G:=by rw[Df,Lm];exact hc1):G:=h
def Jk(h:G:=by rw[HCL.o];exact hpl):G:=h
def Js(h:G:=by rw[dQ];omega):G:=h
def Jt(h:G:=by rw[lB];omega):G:=h
def JA(h:G:=by with_reducible rfl):G:=h
def Nl(h:G:=by with_unfolding_all first|exact Ac rfl|exact nS|exact rfl):G:=h
def Np(h:G:=by(simp only[pick,sel,si,nth,Nat.reduceAdd]);rfl):G:=h
def JB(h:G:=by simp only[Ai];omega):G:=h
def JC(h:G:=by rw[aV,bD,bW];omega):G:=h
def JF(h:G:=by rw[HL.o];exact hlt):G:=h
def JG(h:G:=by simpa using hm):G:=h
def JI(h:G:=by rw[BZ l k hlt];exact dF _):G:=h
def JK(h:G:=by rw[<-HN2.o];omega):G:=h
def JM(h:G:=by rw[<-HN1.o];exact hlt2):G:=h
def JO(h:G:=by simp[Ih,ma,cj]):G:=h
def JR(h:G:=by rw[<-HN.o];exact hlt):G:=h
def JU(h:G:=by simp[br,starved,AB,ht,MX]):G:=h
def JV(h:G:=by rw[h]at hr;cases hr):G:=h
def JW(h:G:=by rw[W7];omega):G:=h
def Ko(h:G:=by rw[HLn.o];omega):G:=h
def Kt(h:G:=by first|exact HS2.o|exact HS1.o|exact HS4.o):G:=h
def Ku(h:G:=by rw[KC.o,OY]):G:=h
def Ky(h:G:=by rw[Bg HZ.o,KC.o];decide):G:=h
def Kz(h:G:=by with_unfolding_all (first|exact(LZ HL.o)|exact(Mc HL.o))):G:=h
def Nq(h:G:=by with_unfolding_all (first|exact Ac rfl|exact nS|exact rfl)):G:=h
def KA(h:G:=by rw[Ai];exact hj):G:=h
def KG(h:G:=by simpa using hlt):G:=h
def KH(h:G:=by rw[h.len];omega):G:=h
def KJ(h:G:=by simp only[maxLen];omega):G:=h
def KN(h:G:=by rw[Bg HZ.o];decide):G:=h
def KO(h:G:=by rw[Ai,hm,Df,hl]):G:=h
def KP(h:G:=by rw[dA];exact HSZ.o):G:=h
def KQ(h:G:=by rw[Bg HC.o,KD.o];decide):G:=h
def KX(h:G:=by exact hm.row 1 rfl):G:=h
def KZ(h:G:=by simp[br,starved,AB,ht,Qs]):G:=h
def L8(h:G:=by rw[<-HS.o];exact h1):G:=h
def La(h:G:=by rw[He.o,cO];exact Hz.o):G:=h
def Nr(h:G:=by with_unfolding_all exact ag rfl):G:=h
def Ns(h:G:=by with_unfolding_all exact(Ac rfl)):G:=h
def Nu(h:G:=by(try simp only[puts,s2,List.set,List.eraseIdx,s3]);rfl):G:=h
def Lc(h:G:=by have:=HT.o;omega):G:=h
def Lh(h:G:=by rw[<-HM.o];omega):G:=h
def Lj(h:G:=by rw[show(8*(k:Int)).toNat=8*k by omega];exact s1):G:=h
def Lp(h:G:=by rw[show(q:Int)*(d:Int)=((q*d:Nat):Int) by push_cast;rfl,<-ht];exact aZ _ (by omega)):G:=h
def Nv(h:G:=by first|exact .one (ot rfl) (by with_unfolding_all exact rfl)|exact .all (ag rfl)|exact .two (ag rfl) (by with_unfolding_all exact rfl) (by with_unfolding_all exact rfl)|exact .byt (ot rfl) (by first|omega|simp only[cO];omega)|exact .ints (ot rfl) (by first|omega|simp only[cO];omega)|exact .jn (ot rfl) (by first|omega|simp only[cO];omega)):G:=h
def NC(h:G:=by first|exact wM|exact nP|exact a1E):G:=h
def NH(h:G:=by first|exact underlying227|exact underlying139|exact underlying287):G:=h
def Lr(h:G:=by simp[br,starved,AB,hj,Oj,h1,h2]):G:=h
def Ls(h:G:=by with_unfolding_all (first|exact(CJ HL.o)|exact(Cb HL.o)|exact(yt HL.o)|exact(CJ HM.o))):G:=h
def Lu(h:G:=by first|exact(kD HM.o)|exact(Dz HM.o)):G:=h
def LC(h:G:=by unfold execOp;simp only[ho,resolve,invoke,builtin,aL,bw,aS,cM,bT,bZ,hx,hy,hr]):G:=h
def NK(h:G:=by first|exact el3|exact xc|exact wO):G:=h
def LG(h:G:=by with_unfolding_all (first|exact(Bq HT.o)|exact(Bq HM.o))):G:=h
def LH(h:G:=by with_unfolding_all (first|exact(CJ HL.o)|exact(Cb HL.o)|exact(yt HL.o)|exact(E8 HL.o))):G:=h
def LJ(h:G:=by with_unfolding_all (first|exact HSZ.o|exact HSZ0.o)):G:=h
def LK(h:G:=by with_unfolding_all (first|exact HP.o|exact HP0.o)):G:=h
def dM(h:G:=by first|exact Eo|exact Bq uZ|exact DT uZ|exact F5 uZ|exact BJ uZ|exact F6 _ uZ|exact mY uZ|exact mv uZ|exact gh uZ|exact mR uZ|exact wj uZ):G:=h
def NQ(h:G:=by(simp only[oW,Nat.reduceAdd]);rfl):G:=h
def NR(h:G:=by first|exact lw|exact lN|exact CJ uZ|exact Cb uZ|exact yt uZ|exact E8 uZ|exact LZ uZ|exact Mc uZ|exact oT|exact Cr|exact Eg uZ):G:=h
def NS(h:G:=by first|exact II uZ|exact Jv uZ|exact FD uZ|exact Q5 uZ|exact LQ uZ|exact PZ uZ|exact LU uZ|exact Q7 uZ):G:=h
def NU(h:G:=by first|exact Eo|exact Bq uZ|exact DT uZ|exact F5 uZ|exact BJ uZ|exact F6 _ uZ|exact mY uZ|exact mv uZ|exact gh uZ|exact mR uZ|exact wj uZ|exact ag rfl):G:=h
def NV(h:G:=by first|exact IJ uZ|exact L9 uZ|exact FH uZ|exact Qa uZ|exact LW uZ|exact Q9 uZ|exact LX uZ|exact Qb uZ):G:=h
def LP(h:G:=by first|exact .inl ⟨rfl,rfl⟩|exact .inr ⟨rfl,rfl⟩):G:=h
def LY(h:G:=by rw[BZ _ p (by omega)];exact dF _):G:=h
def MB(h:G:=by with_unfolding_all (first|exact HG.o|exact HG2.o)):G:=h
def MC(h:G:=by have h9:=HSZ.o;simp only[bD,bW];omega):G:=h
def NW(h:G:=by with_unfolding_all exact ot rfl):G:=h
def MF(h:G:=by have:=HT.o;show s<=100000000000000;omega):G:=h
def MI(h:G:=by rw[aV];simp only[bD,bW];omega):G:=h
end
section
variable{p:Int}{l:ac}{k:Nat}
def zeros:ac:=List.replicate 256 0
def DK:zeros.length=256:=fp ..
def Jh(k:Nat):ac:=(List.range 256).map (λ(i:Nat)=>if i<k then(i:Int)else 0)
def new:ac:=Jh 256
def Vt(k:Nat):(Jh k).length=256:=by rw[Jh,kX,jT]
def FW:new.length=256:=Vt 256
def dI:(Jh k).set k k=Jh (k+1):=by
 apply lI;intro i;simp only[Jh,mM,jH,kX,jT];exact Lt
def front(l:ac)(k:Nat):ac:=gi l k::l.eraseIdx k
def a06(h:k<l.length):(front l k).length=l.length:=by
 simp[front,List.length_eraseIdx,h];omega
def sh(l:ac)(k i:Nat):ac:=l.take (i+1)++((l.take k).drop i++l.drop (k+1))
def A2g(l:ac)(k i:Nat)(h:k<l.length)(hi:i<=k):(sh l k i).length=l.length:=by
 simp[sh];omega
def A1P(l:ac)(k:Nat)(h:k<l.length):(sh l k 0).set 0 (gi l k)=front l k:=by
 cases l with
|nil=>simp at h
|cons a l=>
  simp[sh,front,Fb]
def zO(l:ac)(k:Nat)(h:k<l.length):sh l k 0=l.take 1++l.take k++l.drop (1+(l.take k).length):=by
 simp[sh,qP (Nat.le_of_lt h),Nat.add_comm]
def Ie(l:ac)(p:Int):ac:=if 0<=p/\p<256 then front l p.toNat else l
def takeC(l:ac)(p:Int):Int:=if 0<=p/\p<256 then gi l p.toNat else 0
def takeB(p:Int):Bool:=decide (0<=p/\p<256)
def Vs(h:l.length=256):(Ie l p).length=256:=by
 unfold Ie;split
 .rw[a06]
  .exact h
  .omega
 .exact h
def pos(l:ac)(c:Int):Int:=if l.findIdx (· ==c)<l.length then(l.findIdx (· ==c):Int)else-1
def el(l:ac)(c:Int):ac:=Ie l (pos l c)
def one(k:Nat):ac:=(List.range 256).map (λ(i:Nat)=>if i<k then(1:Int)else 0)
def ones:ac:=one 256
def jm(k:Nat):(one k).length=256:=by rw[one,kX,jT]
def one_step:(one k).set k 1=one (k+1):=by
 apply lI;intro i;simp only[one,mM,jH,kX,jT];exact Lt
def Ew(l:ac)(k:Nat):ac:=(List.range 256).map (λ(i:Nat)=>if(l.take k).contains (i:Int)then(1:Int)else 0)
def a0b(l:ac)(k:Nat):(Ew l k).length=256:=by rw[Ew,kX,jT]
def SX(hk:k<l.length)(hb:0<=gi l k):(Ew l k).set (gi l k).toNat 1=Ew l (k+1):=by
 have e:l.take (k+1)=l.take k++[gi l k]:=by
  rw[kW hk];simp[gi,fU,fe hk]
 apply lI;intro i;simp only[Ew,e,mM,jH,kX,jT];by_cases h2:i<256
 .rw[kY h2];by_cases h:(gi l k).toNat=i
  .rw[aQ h,aQ FP];have:(i:Int)=gi l k:=FP
   simp[this]
  .rw[aP h];have:¬(i:Int)=gi l k:=FP
   simp[this]
 .rw[iQ (show(List.range 256).length<=i by rw[jT];omega)];split
  .rw[aP FP];rfl
  .rfl
def ly(l:ac):Bool:=Ew l 256==ones
end
def sl:ac->ac->Bool
|[],b=>!b.isEmpty
|_::_,[]=>false
|a::x,b::y=>decide (a<b)||(decide (a=b)&&sl x y)
def sE{a b:Int}{x y:ac}:sl (a::x) (b::y)=true↔a<b\/a=b/\sl x y=true:=by simp[sl]
def n7:∀x:ac,sl x x=false
|[]=>rfl
|a::x=>by simp[sl,n7 x]
def ov:∀{x y:ac},sl x y=true->sl y x=false
|[],[],h=>by cases h
|[],_::_,_=>rfl
|a::x,b::y,h=>by
  rw[sE]at h;rcases h with h|⟨rfl,h⟩
  .simp[sl,show¬b<a by omega,show¬b=a by omega]
  .simp[sl,ov h]
def yy:∀x y:ac,sl x y=true\/x=y\/sl y x=true
|[],[]=>.inr (.inl rfl)
|[],_::_=>.inl rfl
|_::_,[]=>.inr (.inr rfl)
|a::x,b::y=>by
  rw[sE,sE];rcases vw a b with h|rfl|h
  .exact .inl (.inl h)
  .rcases yy x y with h|rfl|h
   .exact .inl (.inr ⟨rfl,h⟩)
   .exact .inr (.inl rfl)
   .exact .inr (.inr (.inr ⟨rfl,h⟩))
  .exact .inr (.inr (.inl h))
def H5:∀{x y z:ac},sl x y=true->sl y z=true->sl x z=true
|[],_,[],_,h=>by cases‹ac›<;>simp[sl]at h
|[],_,_::_,_,_=>rfl
|_::_,[],_,h,_=>by cases h
|_::_,_::_,[],_,h=>by cases h
|a::x,b::y,c::z,h1,h2=>by
  rw[sE]at*;rcases h1 with h1|⟨rfl,h1⟩
  .rcases h2 with h2|⟨rfl,_⟩<;>exact .inl FP
  .rcases h2 with h2|⟨rfl,h2⟩
   .exact .inl h2
   .exact .inr ⟨rfl,H5 h1 h2⟩
def lO(c:Int)(p:ac×Nat):ac×Nat:=(p.1.take p.2++c::p.1.drop p.2,1+((p.1.take p.2).countP (λb=>decide (b<=c))+(p.1.drop p.2).countP (λb=>decide (b<c))))
def cF:ac->ac×Nat
|[]=>([],0)
|c::t=>lO c (cF t)
section
variable{R:Nat->Nat->Bool}{f g:Nat->Int}{c:Int}
def GD(hf:∀k,k≠0->f k=g k):∀{L:b9},L.Nodup->0∈L->L.map f=((L.filter (· !=0)).map g).take (L.idxOf 0)++f 0::((L.filter (· !=0)).map g).drop (L.idxOf 0)
|[],_,h=>by cases h
|k::L,hn,h0=>by
  rw[dR]at hn;by_cases hk:k=0
  .subst hk;have e:L.filter (· !=0)=L:=zo.2 λa ha=>by simpa using λe:a=0=>hn.1 (e▸ha)
   simp[e];exact λa ha=>hf a λe=>hn.1 (e▸ha)
  .have h0:0∈L:=(dh.1 h0).resolve_left (o9 hk);have e:(k==0)=false:=by simpa using hk
   simp[x9,e,hk,hf k hk];exact GD hf hn.2 h0
def N4(ha:∀a b,R a b=true->R b a=false):∀{L:b9},L.Nodup->0∈L->L.Pairwise (λa b=>R a b=true)->
  (((L.filter (· !=0)).map g).take (L.idxOf 0)).countP (λb=>decide (b<=c))+(((L.filter (· !=0)).map g).drop (L.idxOf 0)).countP (λb=>decide (b<c))=(L.filter (· !=0)).countP λk=>decide (g k<c)||(decide (g k=c)&&R k 0)
|[],_,h,_=>by cases h
|k::L,hn,h0,hp=>by
  rw[dR]at hn;rw[List.pairwise_cons]at hp;by_cases hk:k=0
  .subst hk;have e:L.filter (· !=0)=L:=zo.2 λa ha=>by simpa using λe:a=0=>hn.1 (e▸ha)
   simp[e,vF];refine lZ λa h=>?_;simp[ha _ _ (hp.1 a h)]
  .have h0:0∈L:=(dh.1 h0).resolve_left (o9 hk);have e:(k==0)=false:=by simpa using hk
   have ih:=N4 ha hn.2 h0 hp.2;simp only[x9,e,cond_false,show((k !=0)=true) by simpa using hk,List.filter_cons_of_pos,bT,wC,y9,oq,<-ih,hp.1 0 h0,uq];by_cases h1:g k<c
   .simp[h1,show g k<=c by omega];omega
   .by_cases h2:g k=c
    .simp[h2];omega
    .simp[h1,h2,show¬g k<=c by omega]
def LE(ha:∀a b,R a b=true->R b a=false):∀{L:b9},L.Nodup->0∈L->L.Pairwise (λa b=>R a b=true)->L.idxOf 0=L.countP λk=>R k 0
|[],_,h,_=>by cases h
|k::L,hn,h0,hp=>by
  rw[dR]at hn;rw[List.pairwise_cons]at hp;by_cases hk:k=0
  .subst hk
   have h1:R 0 0=false:=by
    cases h:R 0 0 with
   |false=>rfl
   |true=>have:=ha _ _ h;rw[h]at this;cases this
   simp[h1];exact Eq.symm (List.countP_eq_zero.2 λa h=>by simp[ha _ _ (hp.1 a h)])
  .have h0:0∈L:=(dh.1 h0).resolve_left (o9 hk);have e:(k==0)=false:=by simpa using hk
   simp[x9,e,hp.1 0 h0];exact LE ha hn.2 h0 hp.2
end
def xp(x:ac)(L:b9):ac:=(L.filter (· !=0)).map λk=>gi x (k-1)
def H4{p:Nat->Bool}{l m:b9}(hl:l.Nodup)(hm:m.Nodup)(h:∀x,x∈l↔x∈m):l.countP p=m.countP p:=
 ((yg hl hm).2 h).countP_eq p
def Pf(n:Nat):((List.range n).map (·+1)).Nodup:=by
 refine tX.2 (List.nodup_range.imp λh=>?_);omega
def P3:∀(x:ac)(L:b9),L.Nodup->(∀k,k∈L↔k<=x.length)->L.Pairwise (λa b=>sl (x.drop a) (x.drop b)=true)->cF x=(xp x L,L.idxOf 0)
|[],L,hn,hm,_=>by
  have h:L.Perm [0]:=(yg hn G5).2 λk=>by rw[hm];simp
  rw[List.perm_singleton.1 h];rfl
|c::t,L,hn,hm,hp=>by
  have h0:0∈L:=(hm 0).2 FP
  have hpos:∀{a},a∈L.filter (· !=0)->0<a:=λh=>by
   have:=(lX.1 h).2;simp at this;omega
  have hn':((L.filter (· !=0)).map (· -1)).Nodup:=by
   refine tX.2 ((hn.filter _).imp_of_mem λha hb h=>?_);have:=hpos ha;have:=hpos hb;omega
  have hm':∀k,k∈(L.filter (· !=0)).map (· -1)↔k<=t.length:=λk=>by
   rw[eX]
   constructor
   .rintro⟨a,ha,rfl⟩;have h1:=(hm a).1 (lX.1 ha).1;have:=hpos ha;simp at h1;omega
   .exact λh=>⟨k+1,lX.2 ⟨(hm _).2 G8,G5⟩,rfl⟩
  have hp':((L.filter (· !=0)).map (· -1)).Pairwise (λa b=>sl (t.drop a) (t.drop b)=true):=by
   refine tX.2 ((hp.filter _).imp_of_mem λ{a b}ha hb h=>?_);obtain⟨a,rfl⟩:∃a',a=a'+1:=⟨a-1,by have:=hpos ha;omega⟩;obtain⟨b,rfl⟩:∃b',b=b'+1:=⟨b-1,by have:=hpos hb;omega⟩;exact h
  have ih:=P3 t _ hn' hm' hp';have h0':=(hm' 0).2 FP;rw[cF,ih,lO];refine uF ?_ ?_
  .have e:=GD (f:=λk=>gi (c::t) k) (g:=λk=>gi t (k-1)) (λk hk=>by
    obtain⟨k,rfl⟩:∃j,k=j+1:=⟨k-1,FP⟩
    rfl) hn' h0'
   rw[List.map_map]at e;exact e.symm
  .show 1+(_+_)=L.idxOf 0;rw[xp,N4 (R:=λa b=>sl (t.drop a) (t.drop b)) (λ_ _=>ov) hn' h0' hp',LE (R:=λa b=>sl ((c::t).drop a) ((c::t).drop b)) (λ_ _=>ov) hn h0 hp]
   rw [H4 (hn'.filter _) (Pf t.length) (λk=>by
     rw[lX,hm',eX]
     constructor
     .rintro⟨h1,h2⟩;simp at h2;exact⟨k-1,dS.2 FP,FP⟩
     .rintro⟨a,ha,rfl⟩;have:=dS.1 ha
      exact⟨FP,G5⟩),
    H4 hn (m:=0::(List.range (t.length+1)).map (·+1)) (dR.2 ⟨G5,Pf _⟩) (λk=>by
     rw[hm,dh,eX]
     constructor
     .intro h;simp at h;by_cases hk:k=0
      .exact .inl hk
      .exact .inr ⟨k-1,dS.2 FP,FP⟩
     .rintro(rfl|⟨a,ha,rfl⟩)
      .omega
      .have:=dS.1 ha
       simp;omega)]
   rw[oq,List.range_succ,ES,jJ,vF,vF,aP (by simp[n7])]
   have e:(List.range t.length).countP ((λk=>sl ((c::t).drop k) ((c::t).drop 0))∘(·+1))=(List.range t.length).countP ((λk=>decide (gi t (k-1)<c)||(decide (gi t (k-1)=c)&&sl (t.drop k) (t.drop 0)))∘(·+1)):=by
    refine lZ λk hk=>?_;have hk:=dS.1 hk
    have e1:t.drop k=gi t k::t.drop (k+1):=by
     rw[jg hk];simp[gi,List.getD,hk]
    simp[e1,sl]
   rw[e];simp[sl];omega
def xt{x z:ac}(y:ac)(h:sl x z=true):sl x y=true\/sl y z=true:=by
 rcases yy x y with h1|rfl|h1
 .exact .inl h1
 .exact .inr h
 .exact .inr (H5 h1 h)
def ef(H:Nat->Nat)(i k:Nat):Nat->Nat:=λj=>if j=k then H i else if j=i then H k else H j
structure Pm(n:Nat)(H H':Nat->Nat):Prop where
 out:∀j,n<=j->H' j=H j
 inn:∀j,j<n->∃k,k<n/\H' j=H k
 inj:∀N,n<=N->(∀i j,i<j->j<N->H i≠H j)->∀i j,i<j->j<N->H' i≠H' j
def Pm.refl(n:Nat)(H:Nat->Nat):Pm n H H:=⟨λ_ _=>rfl,λj h=>⟨j,h,rfl⟩,λ_ _ h=>h⟩
def Pm.trans{n:Nat}{H H' H'':Nat->Nat}(h:Pm n H H')(h':Pm n H' H''):Pm n H H'':=
 ⟨λj hj=>(h'.out j hj).trans (h.out j hj),λj hj=>by
  obtain⟨k,hk,e⟩:=h'.inn j hj;obtain⟨m,hm,e2⟩:=h.inn k hk
  exact⟨m,hm,e.trans e2⟩,λN hN hi=>h'.inj N hN (h.inj N hN hi)⟩
def Pm.sw{n i k:Nat}(H:Nat->Nat)(hi:i<n)(hk:k<n):Pm n H (ef H i k):=by
 refine⟨λj hj=>by unfold ef;grind,λj hj=>?_,λN hN h a b hab hb=>?_⟩
 .unfold ef;split
  .exact⟨i,hi,rfl⟩
  .split
   .exact⟨k,hk,rfl⟩
   .exact⟨j,hj,rfl⟩
 .have h2:∀u v,u<N->v<N->H u=H v->u=v:=λu v hu hv e=>by
   rcases qX u v with h3|h3|h3
   .exact absurd e (h u v h3 hv)
   .exact h3
   .exact absurd e.symm (h v u h3 hu)
  unfold ef
  grind
section
variable{R:Nat->Nat->Bool}{H:Nat->Nat}{n i k:Nat}
def Dn(R:Nat->Nat->Bool)(H:Nat->Nat)(n i:Nat):Prop:=(∀j,0<j->j<n->(j-1)/2≠i->R (H ((j-1)/2)) (H j)=false)/\(0<i->∀j,0<j->j<n->(j-1)/2=i->R (H ((i-1)/2)) (H j)=false)
def Up(R:Nat->Nat->Bool)(H:Nat->Nat)(n i:Nat):Prop:=(∀j,0<j->j<n->j≠i->R (H ((j-1)/2)) (H j)=false)/\(0<i->∀j,0<j->j<n->(j-1)/2=i->R (H ((i-1)/2)) (H j)=false)
def Hp(R:Nat->Nat->Bool)(H:Nat->Nat)(n:Nat):Prop:=∀j,0<j->j<n->R (H ((j-1)/2)) (H j)=false
variable(ha:∀a b,R a b=true->R b a=false)(hc:∀a b c,R a c=true->R a b=true\/R b c=true)
include ha hc in
def Dn.done(h:Dn R H n i)(hk:k=2*i+1\/k=2*i+2)(h1:k=2*i+1->2*i+2<n->R (H (2*i+1)) (H (2*i+2))=false)(h2:k=2*i+2->k<n/\R (H (2*i+1)) (H (2*i+2))=true)(h3:n<=k\/R (H i) (H k)=false):Hp R H n:=by
 intro j hj hjn;by_cases e:(j-1)/2=i
 .rw[e];have hj2:j=2*i+1\/j=2*i+2:=FP
  have:=hc (H i) (H k) (H j);have:=ha (H (2*i+1)) (H (2*i+2));cases hq:R (H i) (H j)<;>grind
 .exact h.1 j hj hjn e
include ha in
def Dn.step(h:Dn R H n i)(hk:k=2*i+1\/k=2*i+2)(h1:k=2*i+1->2*i+2<n->R (H (2*i+1)) (H (2*i+2))=false)(h2:k=2*i+2->R (H (2*i+1)) (H (2*i+2))=true)(h3:k<n)(h4:R (H i) (H k)=true):Dn R (ef H i k) n k:=by
 have h5:=ha _ _ h4
 constructor
 .intro j hj hjn hp;have e1:=h.1 j hj hjn;have e2:=h.2;unfold ef;by_cases hji:j=i
  .subst hji;have:=e2 hj k FP h3 FP;rw[aP hp,aP FP,aP FP,aQ rfl];exact this
  .by_cases hjk:j=k
   .subst hjk;rw[aP hp,aQ FP,aQ rfl];exact h5
   .rw[aP hp,aP hjk,aP hji];by_cases hq:(j-1)/2=i
    .rw[aQ hq];have hj2:j=2*i+1\/j=2*i+2:=FP
     rcases hk with rfl|rfl
     .rcases hj2 with rfl|rfl
      .omega
      .exact h1 rfl hjn
     .rcases hj2 with rfl|rfl
      .exact ha _ _ (h2 rfl)
      .omega
    .rw[aP hq];exact e1 hq
 .intro _ j hj hjn hp;unfold ef;have e1:=h.1 j hj hjn FP;rw[hp]at e1;rw[aP FP,aQ FP,aP FP,aP FP];exact e1
def Up.done(h:Up R H n i)(h1:i=0\/R (H ((i-1)/2)) (H i)=false):Hp R H n:=λj hj hjn=>by
 by_cases e:j=i
 .subst e;exact h1.resolve_left FP
 .exact h.1 j hj hjn e
include ha hc in
def Up.step(h:Up R H n i)(hi:0<i)(hin:i<n)(h1:R (H ((i-1)/2)) (H i)=true):Up R (ef H ((i-1)/2) i) n ((i-1)/2):=by
 have hu:(i-1)/2<i:=FP
 have hu1:=h.1 ((i-1)/2);generalize hup:(i-1)/2=u at*
 constructor
 .intro j hj hjn hju;have e1:=h.1 j hj hjn;have e2:=h.2 hi j hj hjn;unfold ef;by_cases hji:j=i
  .subst hji;rw[hup,aQ rfl,aP FP,aQ rfl];exact ha _ _ h1
  .have e1:=e1 hji;rw[aP hji,aP hju];by_cases hp:(j-1)/2=i
   .rw[aQ hp,<-hup];exact e2 hp
   .rw[aP hp];by_cases hq:(j-1)/2=u
    .rw[aQ hq];rw[hq]at e1;cases hz:R (H i) (H j)with
    |false=>rfl
    |true=>
      have:=hc (H u) (H j) (H i) h1;rcases this with h6|h6
      .rw[h6]at e1;cases e1
      .rw[ha _ _ hz]at h6;cases h6
    .rw[aP hq];exact e1
 .intro hu0 j hj hjn hp;unfold ef;have e1:=hu1 hu0 FP FP;rw[aP (show(u-1)/2≠i by omega),aP (show(u-1)/2≠u by omega)];by_cases hji:j=i
  .rw[aQ hji];exact e1
  .rw[aP hji,aP FP];have e2:=h.1 j hj hjn hji;rw[hp]at e2;cases hz:R (H ((u-1)/2)) (H j)with
  |false=>rfl
  |true=>
    rcases hc _ (H u) _ hz with h6|h6
    .rw[h6]at e1;cases e1
    .rw[h6]at e2;cases e2
include hc in
def Hp.max(hr:R (H 0) (H 0)=false)(h:Hp R H n):∀j,j<n->R (H 0) (H j)=false:=by
 intro j
 induction j using Nat.strongRecOn with
|ind j ih=>
  intro hj;by_cases h0:j=0
  .rw[h0];exact hr
  .have e1:=ih ((j-1)/2) FP FP;have e2:=h j FP hj;cases hz:R (H 0) (H j)with
  |false=>rfl
  |true=>
    rcases hc _ (H ((j-1)/2)) _ hz with h6|h6
    .rw[h6]at e1;cases e1
    .rw[h6]at e2;cases e2
def Hp.dn(h:Hp R H n){H':Nat->Nat}(hs:H'=ef H 0 (n-1))(hn:1<n):Dn R H' (n-1) 0:=by
 subst hs;refine⟨λj hj hjn hp=>?_,λh=>absurd h FP⟩;unfold ef;rw[aP FP,aP hp,aP FP,aP FP];exact h j hj FP
end
def Sd(R:Nat->Nat->Bool)(H:Nat->Nat)(n N:Nat):Prop:=∀j k,j<k->n<=k->k<N->R (H j) (H k)=true
def Sd.step{R:Nat->Nat->Bool}{H:Nat->Nat}{n N:Nat}(hc:∀a b c,R a c=true->R a b=true\/R b c=true)(hr:R (H 0) (H 0)=false)(ht:∀i j,i<N->j<N->H i≠H j->R (H i) (H j)=true\/R (H j) (H i)=true)(hi:∀i j,i<j->j<N->H i≠H j)(h:Hp R H n)(hs:Sd R H n N)(h1:1<n)(hn:n<=N):Sd R (ef H 0 (n-1)) (n-1) N:=by
 intro j k hjk hk hkN;have hm:=Hp.max hc hr h;unfold ef;by_cases e:k=n-1
 .rw[aP FP,aQ e]
  have key:∀x,0<x->x<n->R (H x) (H 0)=true:=λx h0 hx=>by
   rcases ht x 0 FP FP (λe=>hi 0 x h0 FP e.symm)with h2|h2
   .exact h2
   .rw[hm x hx]at h2;cases h2
  split
  .exact key _ FP FP
  .exact key _ FP FP
 .rw[aP e,aP (show k≠0 by omega)];split
  .exact hs 0 k FP FP hkN
  .split
   .exact hs _ k FP FP hkN
   .exact hs j k hjk FP hkN
def Sd.pm{R:Nat->Nat->Bool}{H H':Nat->Nat}{n N:Nat}(hs:Sd R H n N)(hp:Pm n H H'):Sd R H' n N:=by
 intro j k hjk hk hkN;rw[hp.out k hk];by_cases h:j<n
 .obtain⟨j',h1,e⟩:=hp.inn j h;rw[e];exact hs j' k FP hk hkN
 .rw[hp.out j FP];exact hs j k hjk hk hkN
section
variable{α:Type}[DecidableEq α]
def eV:List α->List α
|[]=>[]
|a::l=>if a∈l then eV l else a::eV l
def fx:∀{l:List α}{x:α},x∈eV l↔x∈l
|[],x=>Iff.rfl
|a::l,x=>by
  rw[eV];split
  .rename_i h;rw[fx,dh];exact⟨.inr,λh1=>h1.elim (λe=>e▸h) id⟩
  .rw[dh,dh,fx]
def ia:∀l:List α,(eV l).Nodup
|[]=>yc
|a::l=>by
  rw[eV];split
  .exact ia l
  .rename_i h;exact dR.2 ⟨λh1=>h (fx.1 h1),ia l⟩
def vd:∀l:List α,(eV l).length<=l.length
|[]=>aX _
|a::l=>by
  have:=vd l;rw[eV];split<;>simp<;>omega
def Fs:∀{l:List α},(eV l).length=l.length->l.Nodup
|[],_=>yc
|a::l,h=>by
  have hl:=vd l;rw[eV]at h;split at h
  .simp at h;omega
  .rename_i ha;simp at h;exact dR.2 ⟨ha,Fs h⟩
def yv:∀{l:List α},l.Nodup->eV l=l
|[],_=>rfl
|a::l,h=>by
  rw[dR]at h;rw[eV,aP h.1,yv h.2]
omit [DecidableEq α]in
def Rv(p:α->Bool){l m:List α}(hl:l.Nodup)(hm:m.Nodup)(h:∀x,x∈l↔x∈m):l.countP p=m.countP p:=
 ((yg hl hm).2 h).countP_eq p
omit [DecidableEq α]in
def s7{l m:List α}(hl:l.Nodup)(hm:m.Nodup)(h:∀x,x∈l↔x∈m):l.length=m.length:=
 ((yg hl hm).2 h).length_eq
end
abbrev Pr:=Int×Int
def eh(p q:Pr):Bool:=decide (p.1<q.1)||(decide (p.1=q.1)&&decide (p.2<q.2))
def nz(p:Pr):eh p p=false:=by simp[eh]
def o4(p q:Pr):eh p q=true↔p.1<q.1\/p.1=q.1/\p.2<q.2:=by simp[eh]
def tU{p q r:Pr}(h1:eh p q=true)(h2:eh q r=true):eh p r=true:=by
 rw[o4]at*;omega
def qe(p q:Pr):eh p q=true\/p=q\/eh q p=true:=by
 obtain⟨a,b⟩:=p;obtain⟨c,d⟩:=q;rw[o4,o4];by_cases h:a=c
 .by_cases h2:b=d
  .exact .inr (.inl (by rw[h,h2]))
  .simp only;omega
 .simp only;omega
def rk(l:List Pr)(p:Pr):Nat:=(eV l).countP (eh · p)
def many(l:List Pr):Nat:=(eV l).length
def s8{α:Type}(p q:α->Bool):∀(l:List α)(_:∀x∈l,p x=true->q x=true)(_:∃x∈l,p x=false/\q x=true),l.countP p<l.countP q
|[],_,h=>by obtain⟨x,h,_⟩:=h;cases h
|a::l,hs,⟨x,hx,h1,h2⟩=>by
  rw[oq,oq];have hle:l.countP p<=l.countP q:=List.countP_mono_left λy hy=>hs y (fB _ hy);rcases dh.1 hx with rfl|hx
  .rw[h1,h2];simp;omega
  .have:=s8 p q l (λy hy=>hs y (fB _ hy)) ⟨x,hx,h1,h2⟩;have ha:=hs a (eP ..);cases hp:p a
   .simp;omega
   .rw[ha hp];simp;omega
def kf{l:List Pr}{p q:Pr}(hp:p∈l)(h:eh p q=true):rk l p<rk l q:=
 s8 _ _ _ (λ_ _ hx=>tU hx h) ⟨p,fx.2 hp,nz p,h⟩
def Xf{l:List Pr}{p q:Pr}(hp:p∈l)(hq:q∈l):rk l p<rk l q↔eh p q=true:=by
 refine⟨λh=>?_,kf hp⟩;rcases qe p q with h1|rfl|h1
 .exact h1
 .omega
 .have:=kf hq h1;omega
def tv{l:List Pr}{p q:Pr}(hp:p∈l)(hq:q∈l):rk l p=rk l q↔p=q:=by
 refine⟨λh=>?_,λh=>by rw[h]⟩;rcases qe p q with h1|h1|h1
 .have:=kf hp h1;omega
 .exact h1
 .have:=kf hq h1;omega
def Qz{l:List Pr}{p:Pr}(hp:p∈l):rk l p<many l:=by
 have h1:rk l p<(eV l).countP (λ_=>true):=s8 _ _ _ (λ_ _ _=>rfl) ⟨p,fx.2 hp,nz p,rfl⟩;have h2:(eV l).countP (λ_=>true)=(eV l).length:=by rw[Cc];intro _ _;rfl
 rw[h2]at h1;exact h1
def Lo(l:List Pr):many l<=l.length:=vd l
def aE(l:List Pr):ac:=l.map λp=>(rk l p:Int)
def eS(t:ac):List Pr:=t.map (λc=>(1+c,0))++[(0,0)]
def two(r:ac)(w:Nat):List Pr:=(List.range r.length).map λi=>(gi r i,if i+w<r.length then gi r (i+w)else-1)
def go2:Nat->Nat->List Pr->ac
|0,_,l=>aE l
|f+1,w,l=>if many l<l.length then go2 f (w*2) (two (aE l) w)else aE l
def eM(t:ac):ac:=go2 (t.length+1) 1 (eS t)
end Go.Proofs.YtkpbhdhkdonghaaGreat
