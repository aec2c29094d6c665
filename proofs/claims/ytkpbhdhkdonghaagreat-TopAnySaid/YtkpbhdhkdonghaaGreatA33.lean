/-
  Part 33 of the proof.
-/
import Derived.Lib.AppendZeros
import Derived.Test.YtkpbhdhkdonghaaGreatA32
set_option linter.all false
namespace Go.Proofs.YtkpbhdhkdonghaaGreat
open Go Go.RowKit
variable {r:Uu} {b:Bool} {l:L_} {n size:Nat} {f x:Operand} {s t:TypeId} {u:Value}
section
variable {P:Program} {ev:Ev} {e:En} {h:AH} {w0:Base} {w:World} {a:Act} {o:Oper}
theorem NH {k:FuncId} (hk:enters P k=true) (args:A_):(callFunc k args).run P w=.ok (.enter k args) w:=by
 unfold enters at hk;split at hk
 ·rename_i fn hf;rw [b_t] at hk;obtain ⟨c,hc⟩:=Option.isSome_iff_exists.1 hk.1
  have h1:fn.name ≠ "runtime.NumGoroutine":=by
   intro e;have:=hk.2;rw [e] at this;cases this
  simp [callFunc,hf,h1,hc]
 ·cases hk
theorem YL (c:Call):(c.args.map a.eval)=(c.args.toList.map a.eval).toArray:=Array.ext' (by simp)
theorem A00 {c:Call} (ho:o.op=.call c) (hc:c.callee=.value f) (hev:EvR e ev a) (hl:VRs e l (c.args.toList.map a.eval)) (hx:dF P (ev f) l=some r):Rs P a o w0 w e h r:=by
 unfold dF at hx;split at hx
 ·rename_i k x y hf;cases hb:enters P k with
 |false=>rw [hb] at hx;cases hx
 |true =>
   rw [hb] at hx;cases hx;have p1:=hev _ _ hf;generalize hq:a.eval f=q at p1;cases p1;rename_i x x' y y' h1 h2;refine ⟨x'++(c.args.toList.map a.eval++y'),?_,?_⟩
   ·unfold execOp;simp only [ho,resolve,hc,hq,Deferred.ofValue,invoke,s_b,s_p,r_o];rw [NH hb]
    congr 2
    apply Array.ext';simp [YL]
   ·simpa using h1.append (hl.append h2)
 ·cases hx
theorem EN {c:Call} {b:Builtin} (ho:o.op=.call c) (hc:c.callee=.builtin b):∃ cs,(execOp a.eval o).run P w=(builtin b c.argTypes o.type cs (c.args.toList.map a.eval).toArray).run P w:=by
 refine ⟨(c.args.map fun|.const _=>true|_=>false),?_⟩;unfold execOp;simp only [ho,resolve,hc,invoke,s_b,s_p,r_o,YL];rfl
theorem s_len {c:Call} {v:Value} (ho:o.op=.call c) (hc:c.callee=.builtin .len) (hr:HX e h w0 w) (hl:VRs e l (c.args.toList.map a.eval)) (hx:A28 P c.argTypes.toList l h=some v):RsV P a o w e v:=by
 obtain ⟨cs,hrun⟩:=EN (P:=P) (w:=w) ho hc;generalize c.args.toList.map a.eval=args at hl hrun;have ht:c.argTypes[0]?=c.argTypes.toList[0]?:=by simp
 unfold A28 at hx;split at hx
 ·rename_i t ts r hts;split at hx
  ·rename_i es hes;split at hx
   ·rename_i kt vt hu;cases hx;cases hl;rename_i _ _ p q;cases q;cases p;rename_i g c2 hg;obtain ⟨_,ents,clock,m1,_,_,_,m5⟩:=hr.at hg hes;refine ⟨_,?_,.int _ _⟩;rw [hrun];simp [builtin,Builtin.len_,ht,hts,r_u hu,MapKept.run_getObj_map m1,goInt,m5]
   ·cases hx
  ·cases hx
 ·rename_i t ts s hts;split at hx
  ·rename_i hu;cases hx;cases hl;rename_i _ _ p q;cases q;cases p;exact xel
  ·cases hx
 ·rename_i t ts ad n cap hts;split at hx
  ·rename_i et hu;cases hx;cases hl;rename_i _ _ p q;cases q;cases p
   all_goals
    exact xel
  ·cases hx
 ·cases hx
theorem s_cap {c:Call} {v:Value} (ho:o.op=.call c) (hc:c.callee=.builtin .cap) (hl:VRs e l (c.args.toList.map a.eval)) (hx:A29 P c.argTypes.toList l=some v):RsV P a o w e v:=by
 obtain ⟨cs,hrun⟩:=EN (P:=P) (w:=w) ho hc;generalize c.args.toList.map a.eval=args at hl hrun;have ht:c.argTypes[0]?=c.argTypes.toList[0]?:=by simp
 unfold A29 at hx;split at hx
 ·rename_i t ts ad n cap hts;cases hb:Nat.ble HALF cap with
 |true=>rw [hb] at hx;cases hx
 |false =>
   rw [hb] at hx;simp only [cond_false] at hx
   have hlt:cap < HALF:=by
    rcases Nat.lt_or_ge cap HALF with h|h
    ·exact h
    ·rw [Nat.ble_eq_true_of_le h] at hb;cases hb
   split at hx
   ·rename_i et hu;cases hx;cases hl;rename_i y _ p q;cases q
    have hs:∃ ad',y=.slice ad' n cap:=by
     cases p with
    |sliceNil=>exact ⟨_,rfl⟩
    |slice hg hn hcc =>
      rw [show ∀ c0,capOf c0 cap=cap from fun c0=>by unfold capOf;rw [if_pos hlt]];exact ⟨_,rfl⟩
    |sliceE hg hcc hc2 =>
      have:cap=0:=by omega
      subst this;exact ⟨_,rfl⟩
    obtain ⟨ad',rfl⟩:=hs;refine ⟨.int .i64 cap,?_,.int _ _⟩;rw [hrun];simp [builtin,Builtin.cap_,ht,hts,r_u hu,goInt]
   ·cases hx
 ·cases hx
theorem A1g {c:Call} {v:Value} (ho:o.op=.call c) (hc:c.callee=.builtin (if b then .max else .min)) (hl:VRs e l (c.args.toList.map a.eval)) (hx:A0a b l=some v):RsV P a o w e v:=by
 obtain ⟨cs,hrun⟩:=EN (P:=P) (w:=w) ho hc;generalize c.args.toList.map a.eval=args at hl hrun;unfold A0a at hx;split at hx
 ·rename_i k x k2 y;cases hx;cases hl;rename_i _ _ p q;cases q;rename_i _ _ q r;cases r;cases p;cases q;refine ⟨_,?_,.int _ _⟩;rw [hrun];cases b
  ·by_cases hh:y < x<;>simp [builtin,Builtin.min_,Builtin.min2,hh]
  ·by_cases hh:x < y<;>simp [builtin,Builtin.max_,Builtin.max2,hh]
 ·cases hx
theorem FB (hr:HX e h w0 w) {v:Value} {vs:L_} (hx:JW size n h v=some vs) (hv:VR e v u) (hlen:∀ ad m c,v=.slice ad m c->n<=m) (hn:n ≠ 0) :
  ∃ g off m c us,u=.slice (some ⟨g,off,none⟩) m c/\n<=m/\(∃ ad c',v=.slice ad m c')/\VRs e vs us/\us.length=n * size/\∀ j y,us[j]?=some y->w.cell? ((⟨g,off,none⟩:Addr).add j)=some y:=by
 unfold JW at hx;split at hx
 ·cases hb:Nat.beq n 0 with
 |true=>exact absurd (n_q hb) hn
 |false=>rw [hb] at hx;cases hx
 ·rename_i k off m c;have hm:=hlen _ _ _ rfl;split at hx
  ·rename_i cs hc;cases hv with
  |slice hg hnn hcc =>
    rename_i g c0;obtain ⟨ds,h1,h2,h3⟩:=hr.rowIs hg hc;obtain ⟨rfl,h5⟩:=Ef _ _ _ _ hx;have h6:=(h2.drop off).take (Nat.mul n size);rw [Ht _ h5] at h6;refine ⟨g,off+c0.2,m,_,_,rfl,hm,⟨_,_,rfl⟩,h6,?_,?_⟩
    ·have:=h6.length;rw [this];simp;show min (n * size) (cs.length - off)=n * size;have:off+n * size<=cs.length:=h5;omega
    ·intro j y hy;rw [Addr.add_lit,h1.cell]
     have hj:j < Nat.mul n size:=by
      have:=(List.getElem?_eq_some_iff.1 hy).1;rw [List.length_take] at this;exact Nat.lt_of_lt_of_le this (Nat.min_le_left _ _)
     rw [List.getElem?_take_of_lt hj,List.getElem?_drop,List.getElem?_drop,show c0.2+(off+j)=off+c0.2+j by omega] at hy;simpa using hy
  |sliceE hg hcc hc2=>omega
  ·cases hx
 ·cases hx
theorem Oy:∀ {vs us:L_} {bs:List UInt8},bytesOf vs=some bs->VRs e vs us->∃ ns:I_,us=ns.map (Value.int .u8)/\bs=ns.map (fun n=>UInt8.ofNat n.toNat)
|[],us,bs,h,hv=>by cases h;cases hv;exact ⟨[],rfl,rfl⟩
|v::vs,us,bs,h,hv=>by
  unfold bytesOf at h;split at h
  ·rename_i hh;cases hh
  ·rename_i n l hh;cases hh;split at h
   ·rename_i m hm;cases h;cases hv;rename_i h1 h2;cases h1;obtain ⟨ns,rfl,rfl⟩:=Oy hm h2;exact ⟨(n:Int)::ns,rfl,rfl⟩
   ·cases h
  ·cases h
theorem RI:∀ (ns:I_) (b:ByteArray),ns.foldl (fun r n=>r.push (UInt8.ofNat n.toNat)) b=⟨b.data++(ns.map (fun n=>UInt8.ofNat n.toNat)).toArray⟩
|[],b=>by simp
|n::ns,b=>by
  rw [List.foldl_cons,RI ns]
  congr 1
  apply Array.ext';simp [ByteArray.push]
theorem dQ (h:jq P t=true):∃ et,P.underlying t=some (.slice et)/\P.underlying et=some (.int .u8):=by
 unfold jq at h;split at h
 ·rename_i et he;split at h
  ·rename_i hu;exact ⟨et,(EF he).1,hu⟩
  ·cases h
 ·cases h
theorem lC {d:TypeId} (ho:o.op=.convert s d x) (hev:EvR e ev a) (hr:HX e h w0 w) (hx:Sj P s d (ev x) h=some r):Rs P a o w0 w e h r:=by
 unfold Sj at hx;split at hx
 ·rename_i k m hk;obtain ⟨v,h1,rfl⟩:=C9 hx;exact bG ho hev hk h1
 ·rename_i ad n c hk;have hp:=hev _ _ hk;generalize hq:a.eval x=q at hp;unfold Vm at hx;cases hu8:jq P s with
 |false=>rw [hu8] at hx;cases hx
 |true =>
   rw [hu8] at hx;obtain ⟨et,u1,u2⟩:=dQ hu8
   have hexec:∀ {v:Value} {w':World},(convert s d q).run P w=.ok v w'->(execOp a.eval o).run P w=.ok (.value v) w':=by
    intro v w' hc;unfold execOp;simp only [ho,hq,s_b,hc,r_o,s_p]
   cases hsd:Nat.beq s d with
  |true =>
    rw [hsd] at hx;have:=n_q hsd;subst this;simp only [cond_true] at hx;split at hx
    ·rename_i k off;split at hx
     ·rename_i cs hc;cases hx
      have hconv:∀ {g off' m c':Nat} {ds:A_} {t:TypeId} {fz:Nat × Nat},w.heap[g]?=some (.cells ds t fz)->(convert s s (.slice (some ⟨g,off',none⟩) m c')).run P w=.ok (.slice (some ⟨g,off',none⟩) m c') (w.freeze ⟨g,ds.size,none⟩ 1):=by
       intro g off' m c' ds t fz hh;have hs:w.shape? g=some (t,ds.size):=by unfold World.shape?;rw [hh]
       simp [convert,r_u u1,r_u u2,markStringish,shape,Sem.run,freeze,hs]
      have fin:∀ {g:Nat} {c0:Nat × Nat},e k=some (g,c0)->∃ ds t fz,w.heap[g]?=some (.cells ds t fz)/\HX e ⟨h.t.put k (some (.ro cs)),h.n⟩ w0 (w.freeze ⟨g,ds.size,none⟩ 1):=by
       intro g c0 hg
       have step:∀ {o':AO} {ds:A_} {t:TypeId} {fz:Nat × Nat},h.t.get k=some o'->w.heap[g]?=some (.cells ds t fz)->c0.2+cs.length<=ds.size->VRs e cs ((ds.toList.drop c0.2).take cs.length)->HX e ⟨h.t.put k (some (.ro cs)),h.n⟩ w0 (w.freeze ⟨g,ds.size,none⟩ 1):=by
        intro o' ds t fz ho' hh hsz hv;have hlt:=(Array.getElem?_eq_some_iff.1 hh).1;have hfr:(w.freeze ⟨g,ds.size,none⟩ 1).heap=w.heap.modify g fun
        |.cells c elem (lo,hi)=>.cells c elem (if lo == hi then (ds.size,ds.size+1) else (min lo ds.size,max hi (ds.size+1)))
        |o=>o:=rfl
        obtain ⟨lo,hi⟩:=fz;refine hr.upd hg ho' (o':=.ro cs) ⟨rfl,rfl,rfl,?_,fun q _ hqr=>?_⟩ ⟨ds,t,(if lo == hi then (ds.size,ds.size+1) else (min lo ds.size,max hi (ds.size+1))),?_,hsz,hv⟩
        ·rw [hfr];simp
        ·rw [hfr,Array.getElem?_modify,if_neg (fun e=>hqr (by rw [e]))]
        ·rw [hfr,Array.getElem?_modify,if_pos rfl,hh];rfl
       rcases AH.Yb hc with ⟨es,ho'⟩|ho'
       ·obtain ⟨_,ds,t,h1,h0,h2,_⟩:=hr.at hg ho';exact ⟨ds,t,_,h1,step ho' h1 h0 h2⟩
       ·obtain ⟨_,ds,t,fz,h1,h0,h2⟩:=hr.at hg ho';exact ⟨ds,t,fz,h1,step ho' h1 h0 h2⟩
      cases hp with
     |slice hg hn hcc =>
       obtain ⟨ds,t,fz,h1,h2⟩:=fin hg;exact ⟨_,_,e,En.le.refl e,.inl (hexec (hconv h1)),.slice hg hn hcc,h2⟩
     |sliceE hg hcc hc2 =>
       obtain ⟨ds,t,fz,h1,h2⟩:=fin hg;exact ⟨_,_,e,En.le.refl e,.inl (hexec (hconv h1)),.sliceE hg hcc hc2,h2⟩
     ·cases hx
    ·cases hx
  |false =>
    rw [hsd] at hx;simp only [cond_true,cond_false] at hx;cases hst:Py P d with
   |false=>rw [hst] at hx;cases hx
   |true =>
     rw [hst] at hx
     have hud:P.underlying d=some .string:=by
      unfold Py at hst;split at hst
      ·assumption
      ·cases hst
     simp only [cond_true] at hx;split at hx
     ·rename_i vs hvs;split at hx
      ·rename_i bs hbs;cases hx;by_cases hn0:n=0
       ·subst hn0
        have hvs0:vs=[]:=by
         unfold JW at hvs;split at hvs
         ·cases hvs;rfl
         ·split at hvs
          ·rw [Nat.mul_eq,Nat.zero_mul] at hvs;obtain ⟨h1,_⟩:=Ef _ _ _ _ hvs;simpa using h1
          ·cases hvs
         ·cases hvs
        subst hvs0;cases hbs;refine ⟨.string ⟨#[]⟩,hexec ?_,.string _⟩;have hl0:∀ ad',(loadCells ad' 0).run P w=.ok #[] w:=fun ad'=>rfl;cases hp with
       |sliceNil=>rw [run_convert_bytes_string w s d et _ _ _ u1 u2 hud];rfl
       |slice hg _ _ =>
         exact xd7
       |sliceE hg _ _ =>
         exact xd7
       ·obtain ⟨g,off,m,c',us,rfl,q1,⟨_,_,q2⟩,q3,q4,q5⟩:=FB hr hvs hp (fun _ _ _ hh=>by cases hh;exact Nat.le_refl _) hn0;cases q2;obtain ⟨ns,rfl,rfl⟩:=Oy hbs q3;have hld:=run_loadCells_list (P:=P) w ⟨g,off,none⟩ (ns.map (Value.int .u8)) q5;rw [q4,Nat.mul_one] at hld;refine ⟨.string ⟨(ns.map (fun n=>UInt8.ofNat n.toNat)).toArray⟩,hexec ?_,.string _⟩;rw [run_convert_bytes_string w s d et _ _ _ u1 u2 hud,run_bytesToString w _ _ c' ns hld,RI]
        congr 2
        apply congrArg;apply Array.ext';simp
      ·cases hx
     ·cases hx
 ·cases hx
theorem A1V {c:Call} (ho:o.op=.call c) (hc:c.callee=.builtin .copy) (hr:HX e h w0 w) (hl:VRs e l (c.args.toList.map a.eval)) (hx:uh P c.argTypes.toList l h=some r):Rs P a o w0 w e h r:=by
 obtain ⟨cs,hrun⟩:=EN (P:=P) (w:=w) ho hc;generalize c.args.toList.map a.eval=args at hl hrun;have ht:c.argTypes[0]?=c.argTypes.toList[0]?:=by simp
 unfold uh at hx;split at hx
 ·rename_i t ts ad n cp bd m d hts;split at hx
  ·rename_i et s hes;obtain ⟨u1,u2⟩:=EF hes;rw [JM] at hx
   have hk:cond (Nat.ble m n) m n=min m n:=by
    cases hb:Nat.ble m n
    ·have:¬ m<=n:=fun e=>by rw [Nat.ble_eq_true_of_le e] at hb;cases hb
     simp;omega
    ·have:=n_l hb;simp;omega
   rw [hk] at hx;cases hl;rename_i _ _ p q;cases q;rename_i _ _ q z;cases z;rename_i dst' src'
   have hdst:∃ ad' cp',dst'=.slice ad' n cp'/\(ad=none->ad'=none)/\(∀ rr off,ad=some ⟨rr,off,none⟩->0 < n->∃ g c0,e rr=some (g,c0)/\ad'=some ⟨g,off+c0.2,none⟩):=by
    cases p with
   |sliceNil=>exact ⟨_,_,rfl,fun _=>rfl,fun _ _ h=>(by cases h)⟩
   |slice hg _ _=>exact ⟨_,_,rfl,fun h=>(by cases h),fun _ _ h _=>(by cases h;exact ⟨_,_,hg,rfl⟩)⟩
   |sliceE hg _ _=>exact ⟨_,_,rfl,fun h=>(by cases h),fun _ _ h hn=>(by omega)⟩
   obtain ⟨ad',cp',rfl,hd1,hd2⟩:=hdst
   have hsrc:∃ bd' d',src'=.slice bd' m d':=by
    cases q with
   |sliceNil=>exact ⟨_,_,rfl⟩
   |slice hg _ _=>exact ⟨_,_,rfl⟩
   |sliceE hg _ _=>exact ⟨_,_,rfl⟩
   obtain ⟨bd',d',rfl⟩:=hsrc;cases hb:Nat.beq (min m n) 0 with
  |true =>
    rw [hb] at hx;cases hx;have hz:=n_q hb;refine ⟨.int .i64 0,?_,.int _ _⟩;rw [hrun];have hz':Nat.min m n=0:=hz;cases bd'<;>cases ad'<;>simp [builtin,Builtin.copy_,ht,hts,r_u u1,Builtin.lenOf,A7j u2,Builtin.firstCells,hz',loadCells,loadCellsFrom,storeCells,goInt]
  |false =>
    rw [hb] at hx;have hpos:min m n ≠ 0:=fun e=>by rw [e] at hb;cases hb
    simp only [cond_false] at hx;split at hx
    ·rename_i _ vs rr off hvs;cases h1:vs.all cell1 with
    |false=>rw [LK,h1] at hx;cases hx
    |true =>
      rw [LK,h1] at hx;obtain ⟨h',hlay,rfl⟩:=WT hx;obtain ⟨g2,off2,m2,c2,us,e1,e2,e3,e4,e5,e6⟩:=FB hr hvs q (fun _ _ _ h=>by cases h;exact Nat.min_le_left _ _) hpos;cases e1;obtain ⟨g,c0,hg,rfl⟩:=hd2 rr off rfl (by omega);obtain ⟨w',h2,h3⟩:=Xe (P:=P) hr hg hlay e4 h1;refine ⟨.int .i64 (min m n:Nat),w',e,En.le.refl e,.inl ?_,.int _ _,h3⟩;rw [hrun]
      have hld:(loadCells ⟨g2,off2,none⟩ (Nat.min m n * s)).run P w=.ok us.toArray w:=by
       have:=run_loadCells_list (P:=P) w ⟨g2,off2,none⟩ us e6;rw [e5] at this;exact this
      have hmn:Nat.min m n=min m n:=rfl;simp [builtin,Builtin.copy_,ht,hts,r_u u1,Builtin.lenOf,A7j u2,Builtin.firstCells,hld,h2,goInt,hmn]
    ·cases hx
  ·cases hx
 ·cases hx
theorem zZ {c:Call} (ho:o.op=.call c) (hc:c.callee=.builtin .clear) (hr:HX e h w0 w) (hl:VRs e l (c.args.toList.map a.eval)) (hx:dD P c.argTypes.toList l h=some r):Rs P a o w0 w e h r:=by
 obtain ⟨cs,hrun⟩:=EN (P:=P) (w:=w) ho hc;generalize c.args.toList.map a.eval=args at hl hrun;have ht:c.argTypes[0]?=c.argTypes.toList[0]?:=by simp
 unfold dD at hx;split at hx
 ·rename_i t ts rr off n cp hts;split at hx
  ·rename_i et s hes;obtain ⟨u1,u2⟩:=EF hes;split at hx
   ·rename_i z hz;obtain ⟨i,zv,z1,z2,z3,z4,z5⟩:=F9 hz;cases hl;rename_i _ _ p q;cases q;cases hb:Nat.beq n 0 with
   |true =>
     rw [hb] at hx;cases hx;have:=n_q hb;subst this;refine ⟨undef,?_,.undef⟩;rw [hrun];cases p<;>simp [builtin,Builtin.clear_,ht,hts,r_u u1,undef]
   |false =>
     rw [hb] at hx;simp only [cond_false] at hx;have hn:n ≠ 0:=fun e=>by rw [e] at hb;cases hb
     cases h1:(BK z n).all cell1 with
    |false=>rw [LK,h1] at hx;cases hx
    |true =>
      rw [LK,h1] at hx;obtain ⟨h',hlay,rfl⟩:=WT hx;cases p with
     |sliceE _ _ _=>exact absurd rfl hn
     |slice hg _ _ =>
       rename_i g c0;obtain ⟨w',h2,h3⟩:=Xe (P:=P) hr hg hlay (Js (VRs.self z4) n) h1;refine ⟨undef,w',e,En.le.refl e,.inl ?_,.undef,h3⟩;rw [hrun]
       have hzc:(Builtin.zeroCells zv.cells n).toList=BK z n:=by
        unfold Builtin.zeroCells;rw [G5,List.toList_toArray,z3]
       have hzv:(zeroValue et).run P w=.ok zv w:=by simp [zeroValue,typeInfo,z1,z2]
       cases n with
      |zero=>exact absurd rfl hn
      |succ n=>simp [builtin,Builtin.clear_,ht,hts,r_u u1,undef,hzv,hzc,h2]
   ·cases hx
  ·cases hx
 ·cases hx
end
variable {h':AH} {r:Uu} {cur:A_} {l news rest:L_} {c cap g k len m n s size:Nat} {ad:Option Addr} {bt et t tx ty:TypeId} {i:TypeInfo} {x:Value} {w':World}
section
variable {P:Program} {ev:Ev} {e:En} {h:AH} {w0:Base} {w:World} {a:Act} {o:Oper}
theorem HX.drop (hr:HX e h w0 w) (hk:k < BIG):HX e ⟨h.t.put k none,h.n⟩ w0 w:=by
 refine ⟨hr.below,hr.small,hr.dom,fun j o hj ho=>?_,fun j j' o o' g c c' hj hj' ho ho'=>?_⟩
 ·rw [Tr.get_put _ _ hk hj] at ho;split at ho
  ·cases ho
  ·exact hr.live j o hj ho
 ·rw [Tr.get_put _ _ hk hj] at ho;rw [Tr.get_put _ _ hk hj'] at ho';split at ho
  ·cases ho
  ·split at ho'
   ·cases ho'
   ·exact hr.inj j j' o o' g c c' hj hj' ho ho'
theorem Uc {vs:L_} {v:Value} (hx:MZ h size len vs=some (v,h')):∃ k,h.new (.row vs size)=some (k,h')/\v=.slice (some ⟨k,0,none⟩) len NOM:=by
 unfold MZ at hx;split at hx
 ·rename_i k h2 hn;rw [JM] at hx;cases hx;exact ⟨k,hn,rfl⟩
 ·cases hx
theorem Tv (hr:HX e h w0 w) {vs us:L_} {v:Value} (hx:MZ h size len vs=some (v,h')) (hv:VRs e vs us) (hl:vs.length=len * size) (hcap:len<=cap) (hsz:us.length+rest.length=cap * size)
  (hg:w.grownBy w' none) (hb:w'.heap[w.heap.size]?=some (.cells (us++rest).toArray t (0,0))) (hs0:size ≠ 0:=by omega) :
  ∃ e',e.le e'/\VR e' v (.slice (some ⟨w.heap.size,0,none⟩) len cap)/\HX e' h' w0 w':=by
 obtain ⟨k,hn,rfl⟩:=Uc hx;have hlen:=hv.length;have hmul:len * size<=cap * size:=Nat.mul_le_mul_right size hcap
 obtain ⟨rfl,h1,h2⟩:=hr.add hn hg (Nat.le_refl _) (g:=w.heap.size) (c:=(cap,0)) ⟨_,t,hb,by simp;omega,by
  rw [List.toList_toArray,<- hlen,List.drop_zero,List.take_left]
  exact hv.mono (En.JK hr.fresh),fun _=>⟨by simp only;omega,by simp;omega⟩,fun hz=>absurd hz hs0⟩
 have hHN:HALF=2305843009213693952:=rfl;have hNN:NOM=4611686018427387904:=rfl;have hc:capOf cap NOM=cap:=by unfold capOf;rw [if_neg (by omega)];omega
 refine ⟨_,h1,?_,h2⟩;have h3:=VR.slice (e:=e.add h.n w.heap.size (cap,0)) (off:=0) (n:=len) (c:=NOM) En.EG (by simp only [hc];exact hcap) (fun _=>⟨by simp only;omega,Nat.le_refl _⟩);simp only [hc] at h3;exact h3
theorem ZP (hu:P.underlying t=some (.slice et)) (hs:sizeT P et=some s) (hnc:n<=c) (hx:(NC P tx=true/\∃ q,x=.int q 0)\/(tx=t/\∃ b d,x=.slice b 0 d)) :
  (Builtin.append_ #[t,tx] ty #[.slice ad n c,x]).run P w=.ok (.slice ad n c) w:=by
 obtain ⟨i,hi,his⟩:=Ii hs;rcases hx with ⟨h1,q,rfl⟩|⟨rfl,b,d,rfl⟩
 ·unfold NC at h1;split at h1
  ·rename_i kd hut;cases ad<;>simp [Builtin.append_,r_u hu,r_u hut,A7j hs,typeInfo,hi,asInt,asIntOf,IntKind.wrap_i64,hnc,storeCells]
  ·cases h1
 ·cases ad<;>cases b<;>simp [Builtin.append_,r_u hu,A7j hs,Builtin.lenOf,hnc,storeCells,Builtin.firstCells,loadCells,loadCellsFrom]
theorem ZO (hu:P.underlying t=some (.slice et)) (hi:P.info? et=some i) {o:Nat} (hg:w.heap[g]?=some (.cells cur bt (0,0))) {ad:Addr} {d:Nat} 
  (hl:news.length=m * i.size) (hnews:∀ j u,news[j]?=some u->w.cell? (ad.add j)=some u) (h1:∀ u ∈ news,u.oneCell'=true) (hroom:n+m<=c) (hfit:o+n * i.size+news.length<=cur.size) :
  (Builtin.append_ #[t,t] ty #[.slice (some ⟨g,o,none⟩) n c,.slice (some ad) m d]).run P w=.ok (.slice (some ⟨g,o,none⟩) (n+m) c) (w.setRow g (cur.toList.take (o+n * i.size)++news++cur.toList.drop (o+n * i.size+news.length)).toArray):=by
 have hf:=run_firstCells_some (P:=P) w i.size m ad m d news hl hnews;have hst:=run_storeCells_at P g (o+n * i.size) bt news 0 cur w hg (by simpa using hfit) h1;simp only [Nat.add_zero] at hst;simp [Builtin.append_,r_u hu,sizeOf,typeInfo,hi,Builtin.lenOf,hroom,hf,Addr.add_lit,hst]
theorem Gq (w:World) (o:Obj):w.grownBy (w.drew.alloc o) none:=⟨rfl,rfl,rfl,by simp,fun k hk _=>heap_alloc_old w.drew o hk⟩
theorem rX {c:Call} (ho:o.op=.call c) (hc:c.callee=.builtin .append) (hr:HX e h w0 w) (hl:VRs e l (c.args.toList.map a.eval)) (hx:X7 P c.argTypes.toList l h=some r):Rs P a o w0 w e h r:=by
 obtain ⟨cs,hrun⟩:=EN (P:=P) (w:=w) ho hc;generalize c.args.toList.map a.eval=args at hl hrun;unfold X7 at hx;split at hx
 ·rename_i t tx s x hts;have hta:c.argTypes=#[t,tx]:=Array.ext' (by rw [hts]);rw [hta] at hrun;cases hl;rename_i s' _ p q;cases q;rename_i x' _ q z;cases z
  have fin:∀ {v:Value} {h':AH},(∃ u w' e',e.le e'/\(Builtin.append_ #[t,tx] o.type #[s',x']).run P w=.ok u w'/\VR e' v u/\HX e' h' w0 w')->Rs P a o w0 w e h (.eff v h'):=by
   rintro v h' ⟨u,w',e',h1,h2,h3,h4⟩;refine ⟨u,w',e',h1,.inl ?_,h3,h4⟩;rw [hrun];simp [builtin,h2]
  have main:∀ {zs:Bool} {v:Value} {h':AH},QX P t zs s x h=some (v,h')->(zs=true->NC P tx=true)->(zs=false->t=tx/\NC P tx=false)->∃ u w' e',e.le e'/\(Builtin.append_ #[t,tx] o.type #[s',x']).run P w=.ok u w'/\VR e' v u/\HX e' h' w0 w':=by
   intro zs v h' hap hz1 hz2;unfold QX at hap;split at hap
   ·rename_i et size ad len cap hes;obtain ⟨u1,u2⟩:=EF hes;obtain ⟨i,i1,i2⟩:=Ii u2;split at hap
    ·rename_i n vs hnews
     have hs':∃ ad' cap',s'=.slice ad' len cap'/\len<=cap':=by
      cases p with
     |sliceNil=>exact ⟨_,_,rfl,Nat.le_refl _⟩
     |slice hg hn _=>exact ⟨_,_,rfl,hn⟩
     |sliceE hg _ _=>exact ⟨_,_,rfl,Nat.le_refl _⟩
     cases hb:Nat.beq n 0 with
    |true =>
      rw [hb] at hap;cases hap;have:=n_q hb;subst this;obtain ⟨ad',cap',rfl,hle⟩:=hs';refine ⟨_,w,e,En.le.refl e,ZP u1 u2 hle ?_,p,hr⟩;unfold jX at hnews;split at hnews
      ·rename_i qq m;split at hnews
       ·cases hnews;cases q;exact .inl ⟨hz1 rfl,_,rfl⟩
       ·cases hnews
      ·rename_i b m d;split at hnews
       ·cases hnews;refine .inr ⟨(hz2 rfl).1.symm,?_⟩;cases q with
       |sliceNil=>exact ⟨_,_,rfl⟩
       |slice _ _ _=>exact ⟨_,_,rfl⟩
       |sliceE _ _ _=>exact ⟨_,_,rfl⟩
       ·cases hnews
      ·cases hnews
    |false =>
      rw [hb] at hap;have hn:n ≠ 0:=fun e=>by rw [e] at hb;cases hb
      simp only [cond_false] at hap;rw [LK] at hap;cases hc2:(vs.all cell1 && Nat.ble (Nat.add len n) 1000000 && LJ P et) with
     |false=>rw [hc2] at hap;cases hap
     |true =>
       rw [hc2] at hap;simp only [cond_true] at hap;simp only [b_t] at hc2;obtain ⟨⟨c1,c2⟩,c3⟩:=hc2;have c2:len+n<=1000000:=n_l c2;unfold LJ at c3;rw [i1] at c3;simp only [b_t] at c3;have c4:i.bytes<=10000:=n_l c3.1;have c5:1<=i.size:=n_l c3.2;have hby:(len+n) * i.bytes<=1000000 * 10000:=Nat.mul_le_mul c2 c4;have hbn:n * i.bytes<=1000000 * 10000:=Nat.mul_le_mul (by omega) c4;cases hza:(zs && ad.isSome || not (G8 P et).isSome) with
      |true=>rw [hza] at hap;cases hap
      |false =>
        rw [hza] at hap;simp only [cond_false] at hap;rw [Bool.or_eq_false_iff] at hza;obtain ⟨hza,hzt⟩:=hza;obtain ⟨z,hz⟩:=Option.isSome_iff_exists.1 (show (G8 P et).isSome=true by cases hq:(G8 P et).isSome;rw [hq] at hzt;cases hzt;rfl);obtain ⟨i',zv,z1,z2,z3,z4,z5⟩:=F9 hz;rw [i1] at z1;cases z1;unfold ZV at hap;cases zs with
       |true =>
         have hut:=hz1 rfl;unfold NC at hut;split at hut
         ·rename_i kn hutn;cases ad with
         |some _=>cases hza
         |none =>
           simp only at hap;unfold jX at hnews;split at hnews
           ·rename_i qq m;split at hnews
            ·rename_i z' hz';rw [hz] at hz';cases hz';cases hnews;cases q;cases p;have hr2:=fun (kq:IntKind)=>Lib.run_append_nil_zeros (P:=P) w t tx o.type et i zv kq kn u1 hutn i1 z2 n (by omega) (by omega) (by omega) (by omega)
             have hzc:∀ m,(Builtin.zeroCells zv.cells m)=(BK z m).toArray:=fun m=>by
              unfold Builtin.zeroCells;rw [G5,z3]
             simp only [hzc] at hr2;have hcap:=grownCap_ge w n 0 et
             obtain ⟨e',h1,h2,h3⟩:=Tv (rest:=BK z (grownCap w n 0 et - n)) (cap:=grownCap w n 0 et) (t:=et) (w':=w.drew.alloc (.cells ((BK z n).toArray++(BK z (grownCap w n 0 et - n)).toArray) et)) hr hap (Js (VRs.self z4) n) (by rw [Dv,z5,i2]) hcap (by rw [Dv,Dv,<- Nat.add_mul,z5,i2];congr 1;omega) (Gq w _) (by
              have:=heap_alloc_new w.drew (.cells ((BK z n).toArray++(BK z (grownCap w n 0 et - n)).toArray) et)
              simpa using this)
             exact ⟨_,_,e',h1,hr2 _,h2,h3⟩
            ·cases hnews
           ·rename_i hh;cases hh
           ·cases hnews
         ·cases hut
       |false =>
         obtain ⟨rfl,hni⟩:=hz2 rfl
         have hsrc:∃ g2 off2 m2 us,x'=.slice (some ⟨g2,off2,none⟩) n m2/\VRs e vs us/\us.length=n * size/\∀ j y,us[j]?=some y->w.cell? ((⟨g2,off2,none⟩:Addr).add j)=some y:=by
          unfold jX at hnews;split at hnews
          ·rename_i hh;cases hh
          ·rename_i b m d;split at hnews
           ·rename_i vs2 hel;cases hnews;obtain ⟨g2,off2,m2,c2',us,e1,e2,⟨_,_,e3⟩,e4,e5,e6⟩:=FB hr hel q (fun _ _ _ h=>by cases h;exact Nat.le_refl _) hn;cases e3;exact ⟨g2,off2,c2',us,e1,e4,e5,e6⟩
           ·cases hnews
          ·cases hnews
         obtain ⟨g2,off2,m2,us,rfl,b1,b2,b3⟩:=hsrc
         have hzc:∀ m,(Builtin.zeroCells zv.cells m)=(BK z m).toArray:=fun m=>by
          unfold Builtin.zeroCells;rw [G5,z3]
         have grow:∀ {h2:AH} {cap' g off:Nat} {old olds:L_},HX e h2 w0 w->MZ h2 size (Nat.add len n) (old++vs)=some (v,h')->VRs e old olds->olds.length=len * size->(∀ j y,olds[j]?=some y->w.cell? ((⟨g,off,none⟩:Addr).add j)=some y)->cap' < len+n->∃ u w' e',e.le e'/\(Builtin.append_ #[t,t] o.type #[.slice (some ⟨g,off,none⟩) len cap',.slice (some ⟨g2,off2,none⟩) n m2]).run P w=.ok u w'/\VR e' v u/\HX e' h' w0 w':=by
          intro h2 cap' g off old olds hr2 hag ho1 ho2 ho3 hcap';have hr3:=run_append_grow (P:=P) w t o.type et i zv u1 i1 z2 ⟨g,off,none⟩ len cap' olds (by rw [i2];exact ho2) ho3 ⟨g2,off2,none⟩ n m2 us (by rw [i2];exact b2) b3 hcap' (by omega) (growslice_fits (by omega) (by omega));rw [hzc] at hr3;have hcap:=grownCap_ge w (len+n) cap' et
          obtain ⟨e',h1,h4,h5⟩:=Tv (rest:=BK z (grownCap w (len+n) cap' et - (len+n))) (cap:=grownCap w (len+n) cap' et) (t:=et) (w':=w.drew.alloc (.cells (olds.toArray++us.toArray++(BK z (grownCap w (len+n) cap' et - (len+n))).toArray) et)) hr2 hag (ho1.append b1) (by
           rw [<- (ho1.append b1).length,List.length_append,ho2,b2,<- Nat.add_mul];rfl) hcap (by
           rw [List.length_append,ho2,b2,Dv,z5,i2,<- Nat.add_mul,<- Nat.add_mul];congr 1;omega) (Gq w _) (by
           have:=heap_alloc_new w.drew (.cells (olds.toArray++us.toArray++(BK z (grownCap w (len+n) cap' et - (len+n))).toArray) et)
           simpa using this)
          exact ⟨_,_,e',h1,hr3,h4,h5⟩
         split at hap
         ·
          cases p;have hr3:=run_append_nil (P:=P) w t o.type et i zv u1 i1 z2 ⟨g2,off2,none⟩ n m2 us (by rw [i2];exact b2) b3 (by omega) (by omega) (by omega);rw [hzc] at hr3;have hcap:=grownCap_ge w n 0 et
          obtain ⟨e',h1,h4,h5⟩:=Tv (rest:=BK z (grownCap w n 0 et - n)) (cap:=grownCap w n 0 et) (t:=et) (w':=w.drew.alloc (.cells (us.toArray++(BK z (grownCap w n 0 et - n)).toArray) et)) hr hap b1 (by rw [<- b1.length,b2]) hcap (by
           rw [b2,Dv,z5,i2,<- Nat.add_mul];congr 1;omega) (Gq w _) (by
           have:=heap_alloc_new w.drew (.cells (us.toArray++(BK z (grownCap w n 0 et - n)).toArray) et)
           simpa using this)
          exact ⟨_,_,e',h1,hr3,h4,h5⟩
         ·rename_i k off
          have olds:∀ {cs2:L_} {g:Nat} {c0:Nat × Nat},h.row k=some cs2->off+len * size<=cs2.length->e k=some (g,c0)->∃ us0,VRs e ((cs2.drop off).take (Nat.mul len size)) us0/\us0.length=len * size/\∀ j y,us0[j]?=some y->w.cell? ((⟨g,off+c0.2,none⟩:Addr).add j)=some y:=by
           intro cs2 g c0 hrow hol hg;obtain ⟨ds,d1,d2,d3⟩:=hr.rowIs hg hrow;have d4:=(d2.drop off).take (Nat.mul len size);rw [Ht _ (show off+Nat.mul len size<=cs2.length from hol),List.drop_drop] at d4;refine ⟨_,d4,?_,fun j y hy=>?_⟩
           ·rw [List.length_take,List.length_drop,Array.length_toList];show min (len * size) _=_;omega
           ·rw [Addr.add_lit,d1.cell];have hj:=(List.getElem?_eq_some_iff.1 hy).1;rw [List.length_take] at hj;rw [List.getElem?_take_of_lt (by omega),List.getElem?_drop,show c0.2+off+j=off+c0.2+j by omega] at hy;simpa using hy
          have noroom:∀ {cs2:L_},h.row k=some cs2->off+len * size<=cs2.length->(cond (Nat.ble (Nat.add len n) cap) none (MZ h size (Nat.add len n) ((cs2.drop off).take (Nat.mul len size)++vs)):Option (Value × AH))=some (v,h')->∃ u w' e',e.le e'/\(Builtin.append_ #[t,t] o.type #[s',.slice (some ⟨g2,off2,none⟩) n m2]).run P w=.ok u w'/\VR e' v u/\HX e' h' w0 w':=by
           intro cs2 hrow hol hap;cases hfit:Nat.ble (Nat.add len n) cap with
          |true=>rw [hfit] at hap;cases hap
          |false =>
            rw [hfit] at hap;simp only [cond_false] at hap
            have hlt:cap < len+n:=by
             rcases Nat.lt_or_ge cap (len+n) with h|h
             ·exact h
             ·rw [Nat.ble_eq_true_of_le (show Nat.add len n<=cap from h)] at hfit;cases hfit
            cases p with
           |slice hg hn2 hcc =>
             obtain ⟨us0,q1,q2,q3⟩:=olds hrow hol hg;have hHN:HALF=2305843009213693952:=rfl;exact grow hr hap q1 q2 q3 (by unfold capOf;rw [if_pos (by omega)];exact hlt)
           |sliceE hg hcc hc2 =>
             refine grow (olds:=[]) hr hap (old:=(cs2.drop off).take (Nat.mul 0 size)) (by rw [Nat.mul_eq,Nat.zero_mul];simp;exact .nil) (by simp) (fun j y hy=>by simp at hy) (by omega)
          split at hap
          ·rename_i cs2 es hrow;split at hap
           ·rename_i old hold;obtain ⟨rfl,hol⟩:=Ef _ _ _ _ hold;have hol:off+len * size<=cs2.length:=hol;have hrow2:h.row k=some cs2:=by unfold AH.row;rw [hrow]
            cases hes:(Nat.beq es 0 || not (Nat.ble HALF cap)) with
           |true =>
             rw [hes] at hap;simp only [cond_true] at hap;exact noroom hrow2 hol hap
           |false =>
             rw [hes] at hap;simp only [cond_false] at hap;have hes0:es ≠ 0:=fun e=>by rw [e] at hes;simp at hes
             cases hss:(Nat.beq es size && (Nat.ble HALF cap && Nat.beq (Nat.add off (Nat.mul cap size)) (Nat.mul NOM size))) with
            |false=>rw [hss] at hap;cases hap
            |true =>
              rw [hss] at hap;simp only [cond_true] at hap;rw [b_t,b_t] at hss;have hse:=n_q hss.1;have hH:=n_l hss.2.1;have hoff:off+cap * size=NOM * size:=n_q hss.2.2;subst hse;cases p with
             |sliceE hg hcc hc2 =>
               refine grow (olds:=[]) (hr.drop (hr.lt hg)) hap (old:=(cs2.drop off).take (Nat.mul 0 es)) (by rw [Nat.mul_eq,Nat.zero_mul];simp;exact .nil) (by simp) (fun j y hy=>by simp at hy) (by omega)
             |slice hg hn2 hcc =>
               rename_i g c0;obtain ⟨us0,q1,q2,q3⟩:=olds hrow2 hol hg;by_cases hroom:len+n<=capOf c0.1 cap
               ·
                obtain ⟨hbase,ds,et2,d1,d0,d2,d3⟩:=hr.at hg hrow;obtain ⟨d4,d5⟩:=d3.1 hes0;have hkB:=hr.lt hg;have hHN:HALF=2305843009213693952:=rfl;have hNN:NOM=4611686018427387904:=rfl
                have hre:capOf c0.1 cap * es+off=c0.1 * es:=by
                 have h1:=hcc hH
                 have h2:capOf c0.1 cap+NOM=c0.1+cap:=by
                  unfold capOf;rw [if_neg (by omega)];omega
                 have h3:(capOf c0.1 cap+NOM) * es=(c0.1+cap) * es:=by rw [h2]
                 rw [Nat.add_mul,Nat.add_mul] at h3;omega
                have hmul2:(len+n) * es<=capOf c0.1 cap * es:=Nat.mul_le_mul_right es hroom;have hls:off+c0.2+len * es+us.length<=ds.size:=by rw [b2];rw [Nat.add_mul] at hmul2;omega
                have hrm:=ZO (ty:=o.type) (P:=P) (w:=w) u1 i1 d1 (o:=off+c0.2) (n:=len) (c:=capOf c0.1 cap) (ad:=⟨g2,off2,none⟩) (m:=n) (d:=m2) (news:=us) (by rw [i2];exact b2) b3 (b1.cells c1) hroom (by rw [i2];exact hls);rw [i2] at hrm;obtain ⟨kn,hnew,rfl⟩:=Uc hap;obtain ⟨rfl,rfl,hnB⟩:=AH.KH hnew;have hfr:=hr.fresh;have d2':=(d2.drop off).take (Nat.mul len es);rw [Ht _ (show off+Nat.mul len es<=cs2.length from hol),List.drop_drop,Nat.add_comm c0.2 off] at d2';have hml:Nat.mul len es=len * es:=rfl;refine ⟨_,_,e.add h.n g (capOf c0.1 cap,off+c0.2),En.JK hfr,hrm,?_,?_⟩
                ·have hcn:capOf (capOf c0.1 cap) NOM=capOf c0.1 cap:=by
                  generalize capOf c0.1 cap=q;unfold capOf;rw [if_neg (by omega)];omega
                 have h3:=VR.slice (e:=e.add h.n g (capOf c0.1 cap,off+c0.2)) (off:=0) (n:=Nat.add len n) (c:=NOM) En.EG (by simp only [hcn];exact hroom) (fun _=>⟨by simp only;omega,Nat.le_refl _⟩);simp only [hcn,Nat.zero_add] at h3;exact h3
                ·refine hr.next (En.JK hfr) (EC w g _) (fun g' e=>by cases e;exact hbase) hnB (hr.Xr g _) ?_;intro k1 o1 hk1 h1;simp only [Tr.get_put _ _ (Nat.lt_of_succ_lt hnB) hk1,Tr.get_put _ _ hkB hk1] at h1;by_cases hkk:k1=h.n
                 ·subst hkk;rw [if_pos rfl] at h1;cases h1
                  have hlen2:((cs2.drop off).take (Nat.mul len es)++vs).length=len * es+us.length:=by
                   rw [List.length_append,List.length_take,List.length_drop,b1.length,Nat.min_eq_left (by rw [hml];omega),hml]
                  have hdd:ds.toList.length=ds.size:=Array.length_toList;refine .inr ⟨g,(capOf c0.1 cap,off+c0.2),En.EG,hbase,⟨_,et2,setRow_heap w g ds _ et2 _ d1,?_,?_,fun _=>⟨?_,?_⟩,fun hz=>absurd hz hes0⟩,?_⟩
                  ·rw [hlen2];simp;omega
                  ·rw [hlen2,List.toList_toArray];simp only;rw [Nat.add_comm (off+c0.2) (len * es),Zv _ _ _ _ _ (by omega),List.take_left' (by rw [List.length_append,List.length_take,List.length_drop];omega)];exact (d2'.append b1).mono (En.JK hfr)
                  ·rw [hlen2,b2,<- Nat.add_mul];exact hmul2
                  ·simp;omega
                  ·intro k2 o2 hk2 hne h2 c2' e2;simp only [Tr.get_put _ _ hk1 hk2,if_neg hne,Tr.get_put _ _ hkB hk2] at h2;split at h2
                   ·cases h2
                   ·rename_i hk2k;simp only [En.add,if_neg hne] at e2;exact hk2k (hr.inj k2 k o2 _ g c2' c0 hk2 hkB h2 hrow e2 hg)
                 ·rw [if_neg hkk] at h1;split at h1
                  ·cases h1
                  ·rename_i hk1k;exact .inl ⟨h1,fun g1 c1' e1 e2=>by cases e2;exact hk1k (hr.inj k1 k o1 _ g c1' c0 hk1 hkB h1 hrow e1 hg)⟩
               ·exact grow (hr.drop (hr.lt hg)) hap q1 q2 q3 (by omega)
           ·cases hap
          ·rename_i cs2 hrow;split at hap
           ·rename_i old hold;obtain ⟨rfl,hol⟩:=Ef _ _ _ _ hold;have hol:off+len * size<=cs2.length:=hol;exact noroom (by unfold AH.row;rw [hrow]) hol hap
           ·cases hap
          ·cases hap
         ·cases hap
    ·cases hap
   ·cases hap
  cases hi:NC P tx with
 |true =>
   rw [hi] at hx;simp only [cond_true] at hx;split at hx
   ·rename_i v h' hap;cases hx;exact fin (main hap (fun _=>hi) (fun h=>by cases h))
   ·cases hx
 |false =>
   rw [hi] at hx;simp only [cond_false] at hx;cases hb:Nat.beq t tx with
  |false=>rw [hb] at hx;cases hx
  |true =>
    rw [hb] at hx;simp only [cond_true] at hx;split at hx
    ·rename_i v h' hap;cases hx;exact fin (main hap (fun h=>by cases h) (fun _=>⟨n_q hb,hi⟩))
    ·cases hx
 ·cases hx
theorem s_call {c:Call} (ho:o.op=.call c) (hev:EvR e ev a) (hr:HX e h w0 w) (hx:O4 P ev c h=some r):Rs P a o w0 w e h r:=by
 unfold O4 at hx;split at hx
 ·rename_i l hl;rw [jB] at hl;have hvs:=LC hev _ _ hl;split at hx
  ·rename_i f hc;exact A00 ho hc hev hvs hx
  ·rename_i b hc;unfold Yp at hx;split at hx
   ·obtain ⟨v,h1,rfl⟩:=C9 hx;exact s_len ho hc hr hvs h1
   ·obtain ⟨v,h1,rfl⟩:=C9 hx;exact A1g (b:=true) ho hc hvs h1
   ·obtain ⟨v,h1,rfl⟩:=C9 hx;exact A1g (b:=false) ho hc hvs h1
   ·exact rX ho hc hr hvs hx
   ·exact A1V ho hc hr hvs hx
   ·exact zZ ho hc hr hvs hx
   ·obtain ⟨v,h1,rfl⟩:=C9 hx;exact s_cap ho hc hvs h1
   ·cases hx
  ·cases hx
 ·cases hx
theorem EP (hK:G6 P) (hev:EvR e ev a) (hr:HX e h w0 w) (hx:aop P ev o.op h=some r):Rs P a o w0 w e h r:=by
 generalize hop:o.op=op at hx;cases op
 case move x=>obtain ⟨v,h1,rfl⟩:=C9 (show rv _=some r from hx);exact A1S hop hev h1
 case assign x=>obtain ⟨v,h1,rfl⟩:=C9 (show rv _=some r from hx);exact rW hop hev h1
 case pick c x y=>obtain ⟨v,h1,rfl⟩:=C9 (show rv _=some r from hx);exact A1R hop hev h1
 case nilCheck x=>obtain ⟨v,h1,rfl⟩:=C9 (show rv _=some r from hx);exact s_nil hop hev h1
 case alloc t=>exact A02 hop hr hx
 case box t x=>exact s_box hop hev hr hx
 case build t ps=>obtain ⟨v,h1,rfl⟩:=C9 (show rv _=some r from hx);exact A01 hop hev h1
 case buildSlice t len ps=>exact rV hop hev hr hx
 case load t x=>obtain ⟨v,h1,rfl⟩:=C9 (show rv _=some r from hx);exact A1T hop hev hr h1
 case binOp op t x y yt=>obtain ⟨v,h1,rfl⟩:=C9 (show rv _=some r from hx);exact s_bin hop hev h1
 case unOp op t x=>obtain ⟨v,h1,rfl⟩:=C9 (show rv _=some r from hx);exact s_un hop hev h1
 case convert s d x=>exact lC hop hev hr hx
 case makeFunc fn f c=>obtain ⟨v,h1,rfl⟩:=C9 (show rv _=some r from hx);exact A1U hop hev h1
 case insert t m k x=>exact Y4 hK (.inl hop) hev hr hx
 case mapUpdate t m k x=>exact Y4 hK (.inr hop) hev hr hx
 case lookup t m k ok=>obtain ⟨v,h1,rfl⟩:=C9 (show rv _=some r from hx);exact rQ hK hop hev hr h1
 case makeSlice t l c=>exact zV hop hev hr hx
 case slice t x lo hi mx=>obtain ⟨v,h1,rfl⟩:=C9 (show rv _=some r from hx);exact zU hop hev h1
 case fieldAddr s x f=>obtain ⟨v,h1,rfl⟩:=C9 (show rv _=some r from hx);exact Y6 hop hev h1
 case field s x f=>obtain ⟨v,h1,rfl⟩:=C9 (show rv _=some r from hx);exact zY hop hev h1
 case indexAddr t x i=>obtain ⟨v,h1,rfl⟩:=C9 (show rv _=some r from hx);exact Y5 hop hev h1
 case index t x i=>obtain ⟨v,h1,rfl⟩:=C9 (show rv _=some r from hx);exact zW hop hev h1
 case extract x i=>obtain ⟨v,h1,rfl⟩:=C9 (show rv _=some r from hx);exact lu hop hev h1
 case call c=>exact s_call hop hev hr hx
 case store t x y=>obtain ⟨h',h1,rfl⟩:=WT (show re _ _=some r from hx);exact zT hop hev hr h1
 case makeMap t x =>
  cases x with
 |none=>exact s_map hop hr hx
 |some y=>exact absurd (show (none:R)=some r from hx) (by intro h;cases h)
 all_goals exact absurd (show (none:R)=some r from hx) (by intro h;cases h)
end
end Go.Proofs.YtkpbhdhkdonghaaGreat
