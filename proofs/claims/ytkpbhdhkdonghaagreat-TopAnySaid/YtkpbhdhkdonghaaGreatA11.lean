/-
  Part 11 of the proof.
-/
import Derived.Deep.AppendSrc
import Derived.Test.YtkpbhdhkdonghaaGreatA10
set_option linter.all false
set_option maxHeartbeats 4000000
set_option maxRecDepth 100000
namespace Go.Proofs.YtkpbhdhkdonghaaGreat
open Go Go.RowKit
variable {cs:A_} {news xs:L_} {bytes c e g k n s t:Nat} {nr:Nat × A_} {x y:Operand} {rt:Rws} {i:TypeInfo} {sv z:Value}
theorem Own.perm {w0 w:World} {rs:Rws} {ss:List Sl} (h:Own w0 w rs ss) (hp:rt.Perm rs):Own w0 w rt ss :=
 ⟨⟨h.mem.below,fun p hp'=>h.mem.own p (hp.mem_iff.1 hp'),fun p hp'=>h.mem.rows p (hp.mem_iff.1 hp'),(hp.map _).nodup_iff.2 h.mem.apart⟩,h.sl,((hp.map Prod.fst).append_left _).nodup_iff.2 h.apart⟩
def Lies (s:Nat) (X:Rws) (v:Value) (n:Nat) (xs:L_):Prop:=xs.length=n * s/\((v=.slice none 0 0/\xs=[]/\n=0/\X=[])\/∃ g p c cells,X=[(g,cells)]/\v=.slice (some ⟨g,p,none⟩) n c/\n<=c/\p+c * s<=cells.size/\∀ j,j < xs.length->cells[p+j]?=xs[j]?)
def From (s:Nat) (w:World) (v:Value) (k:Nat) (news:L_):Prop:=news.length=k * s/\((v=.slice none 0 0/\k=0/\news=[])\/∃ ad c,v=.slice (some ad) k c/\(∀ j u,news[j]?=some u->w.cell? (ad.add j)=some u))
theorem From.tK {w:World} {v:Value} (h:Src w v news):From 1 w v news.length news:=by
 refine ⟨by omega,?_⟩;rcases h with ⟨rfl,rfl⟩|⟨ad,c,rfl,hc⟩
 ·exact .inl ⟨rfl,rfl,rfl⟩
 ·exact .inr ⟨ad,c,rfl,hc⟩
theorem From.Pm {w:World} (h:AA w g cs) (off:Nat) (hn:news.length=k * s) (hc:∀ j u,news[j]?=some u->cs[off+j]?=some u):From s w (.slice (some ⟨g,off,none⟩) k c) k news :=
 ⟨hn,.inr ⟨_,_,rfl,fun j u hj=>by rw [Addr.add_lit,h.cell];exact hc j u hj⟩⟩
theorem TA:∀ (vs:L_) (cs:A_) (o i:Nat),o+vs.length<=cs.size->(J4 cs o vs)[i]?=if o<=i/\i < o+vs.length then vs[i - o]? else cs[i]?
|[],cs,o,i,_=>by simp [J4];omega
|v::vs,cs,o,i,h=>by
  simp only [List.length_cons] at h ⊢;rw [J4,TA vs _ (o+1) i (by simp;omega)];by_cases h1:o+1<=i/\i < o+1+vs.length
  ·exact xed
  ·rw [if_neg h1];by_cases h2:i=o
   ·subst h2;rw [if_pos (by omega),Nat.sub_self,List.getElem?_cons_zero,Array.getElem?_setIfInBounds_self_of_lt (by omega)]
   ·exact xfa
theorem Qh:∀ (vs:L_) (cs:A_) (o:Nat),(J4 cs o vs).size=cs.size
|[],_,_=>rfl
|v::vs,cs,o=>by rw [J4,Qh vs];simp
structure OW (P:Program) (t e s bytes:Nat) (i:TypeInfo) (z:Value):Prop where
 under:P.underlying t=some (.slice e)
 info:P.info? e=some i
 zero:i.zero=some z
 size:i.size=s
 zs:z.cells.size=s
 bytes:i.bytes=bytes
theorem OW.ex {P:Program} (hu:P.underlying t=some (.slice e)) (h:(P.info? e).map (fun i=>(i.zero,i.size,i.bytes))=some (some z,s,bytes)) (hc:z.cells.size=s):∃ i,OW P t e s bytes i z:=by
 cases hi:P.info? e with
|none=>rw [hi] at h;cases h
|some i =>
  rw [hi] at h;simp only [Option.map_some,Option.some.injEq,Prod.mk.injEq] at h;exact ⟨i,hu,hi,h.1,h.2.1,hc,h.2.2⟩
section
variable {P:Program} {w0 w:World} {A X rs:Rws} {ss:List Sl} {o:Oper} {a:Act} {K:Value->World->Prop}
theorem Own.grow (h:Own w0 w (nr::(A++(X++rs))) ss):Own w0 w (A++([nr]++rs)) ss:=by
 have h1:Own w0 w (nr::(A++rs)) ss:=h.sub (List.Sublist.cons_cons nr (List.Sublist.append (List.Sublist.refl A) (List.sublist_append_right X rs))) (List.Sublist.refl _);exact h1.perm List.perm_middle
theorem GR (hm:Own w0 w (A++(X++rs)) ss) (ho:o.op=.call { callee:=.builtin .append,args:=#[x,y],argTypes:=#[t,t] }) (he:OW P t e s bytes i z)
  {v:Value} (hx:a.eval x=v) (hX:Lies s X v n xs) (hy:a.eval y=sv) (hs:∀ W,Own w0 W (A++(X++rs)) ss->From s W sv k news) (h1:∀ u ∈ news,u.oneCell'=true) (hb:(n+k) * bytes<=140737488355328) (h63:n+k<=281474976710656) (hs0:0 < s)
  (h:∀ X' v' w',Lies s X' v' (n+k) (xs++news)->Own w0 w' (A++(X'++rs)) ss->K v' w'):Eff P o a w K:=by
 have hF:=hs w hm;have hFD:=hs w.drew (by exact hm.drawn _);have hlen:(xs++news).length=(n+k) * s:=by rw [List.length_append,hX.1,hF.1,Nat.add_mul]
 suffices hh:∃ v' w',(Builtin.append_ #[t,t] o.type #[v,sv]).run P w=.ok v' w'/\K v' w' by
  obtain ⟨v',w',hr,hK⟩:=hh;refine Eff.val (v:=v') (w':=w') ?_ hK;exact xco
 have hsrc:∀ j:Unit,Go.Src P i.size t sv k news w:=fun _=>by
  rcases hF.2 with ⟨rfl,rfl,rfl⟩|⟨ad,c,rfl,hc⟩
  ·exact Go.Src.ofNil w he.under 0
  ·exact Go.Src.ofSlice w he.under ad k c news (by rw [he.size];exact hF.1) hc h1
 have grow:∀ (base:Option Addr) (sCap:Nat),sCap < n+k->(Builtin.firstCells i.size n (.slice base n sCap)).run P w.drew=.ok xs.toArray w.drew->v=.slice base n sCap->∃ v' w',(Builtin.append_ #[t,t] o.type #[v,sv]).run P w=.ok v' w'/\K v' w':=by
  intro base sCap hg hold hv;have hr:=run_append_grow_src w t t o.type e i z he.under he.info he.zero base n sCap xs hold sv k news (hsrc ()) hg (by omega) (growslice_fits hg (by rw [he.bytes];exact hb));rw [hv];refine ⟨_,_,hr,?_⟩;have hge:=grownCap_ge w (n+k) sCap e;refine h [(w.heap.size,(xs++news).toArray++Builtin.zeroCells z.cells (grownCap w (n+k) sCap e - (n+k)))] _ _ ⟨hlen,.inr ⟨_,0,_,_,rfl,rfl,hge,?_,?_⟩⟩ ?_
  ·rw [Nat.zero_add,Array.size_append,size_zeroCells,he.zs,List.size_toArray,hlen,<- Nat.add_mul];exact Nat.le_of_eq (by congr 1;omega)
  ·intro j hj;rw [Nat.zero_add,Array.getElem?_append_left (by simpa using hj)];simp
  ·exact Own.grow ((hm.drawn (w.drawn+1)).alloc _ e)
 rcases hX.2 with ⟨rfl,rfl,rfl,rfl⟩|⟨g,p,c,cells,rfl,rfl,hnc,hsz,hcells⟩
 ·by_cases hk:k=0
  ·subst hk;have hn0:news=[]:=by have:=hF.1;rw [Nat.zero_mul] at this;exact List.length_eq_zero_iff.1 this
   subst hn0;refine ⟨.slice none 0 0,w,?_,h [] _ _ ⟨by simp,.inl ⟨rfl,rfl,rfl,rfl⟩⟩ hm⟩;have hS:=hsrc ();rcases hS.kind with ⟨e',hk⟩|hk<;>simp [Builtin.append_,r_u he.under,r_u hk,sizeOf,typeInfo,he.info,hS.len,hS.cells]
  ·exact grow none 0 (by omega) (by simpa using run_firstCells_none (P:=P) w.drew i.size 0 0 0) rfl
 ·by_cases hr:n+k<=c
  ·have hi:(A++([(g,cells)]++rs))[A.length]?=some (g,cells):=by simp
   have hrow:=hm.row _ hi;have hcs:c * s=n * s+(c - n) * s:=by rw [<- Nat.add_mul];congr 1;omega
   have hks:k * s<=(c - n) * s:=Nat.mul_le_mul_right s (by omega);have hfit:p+n * s+news.length<=cells.size:=by rw [hF.1];omega
   have hrun:=run_append_room_src w t t o.type e i he.under he.info g p n c sv k news (hsrc ()) hr (fun j hj=>by rw [he.size,hrow.cell];simp;omega) (fun j _=>hrow.free _);refine ⟨_,_,hrun,?_⟩;have hset:=Own.setCells A.length news (p+n * i.size) w _ cells hm hi;have e1:(A++([(g,cells)]++rs)).set A.length (g,J4 cells (p+n * i.size) news)=A++([(g,J4 cells (p+n * i.size) news)]++rs):=by simp
   rw [e1] at hset;refine h _ _ _ ⟨hlen,.inr ⟨g,p,c,_,rfl,rfl,hr,?_,?_⟩⟩ hset
   ·rw [Qh];exact hsz
   ·intro j hj;rw [he.size,TA news cells _ _ hfit];rw [List.length_append] at hj;by_cases hjx:j < xs.length
    ·rw [if_neg (by rw [<- hX.1];omega),hcells j hjx,List.getElem?_append_left hjx]
    ·rw [if_pos (by rw [<- hX.1];omega),List.getElem?_append_right (by omega)]
     congr 1
     rw [<- hX.1];omega
  ·refine grow _ c (by omega) ?_ rfl;refine run_firstCells_some (P:=P) w.drew i.size n _ n c xs (by rw [he.size];exact hX.1) ?_;intro j u hj;have hi:(A++([(g,cells)]++rs))[A.length]?=some (g,cells):=by simp
   have hrow:AA w.drew g cells:=Own.row (hm.drawn (w.drawn+1)) _ hi;have hjl:=(List.getElem?_eq_some_iff.1 hj).1;rw [Addr.add_lit,hrow.cell,hcells j hjl];exact hj
end
open Go Tryz Go.RowKit
variable {zz:Int} {q:IntKind} {l:I_} {xs:L_} {bytes c e g k n p s t:Nat} {x y:Operand} {A:Rws} {i:TypeInfo} {u z:Value} {w':World}
theorem Lies.nil (s:Nat):Lies s [] (.slice none 0 0) 0 []:=⟨by simp,.inl ⟨rfl,rfl,rfl,rfl⟩⟩
theorem Lies.shape {X:Rws} {v:Value} (h:Lies s X v n xs):∃ ad c,v=.slice ad n c:=by
 rcases h.2 with ⟨rfl,_,rfl,_⟩|⟨g,p,c,cells,_,rfl,_⟩
 ·exact ⟨_,_,rfl⟩
 ·exact ⟨_,_,rfl⟩
theorem Lies.pos {X:Rws} {v:Value} (h:Lies s X v n xs) (hn:0 < n):∃ g p c cells,X=[(g,cells)]/\v=.slice (some ⟨g,p,none⟩) n c/\n<=c/\p+c * s<=cells.size/\xs.length=n * s/\∀ j,j < xs.length->cells[p+j]?=xs[j]?:=by
 rcases h.2 with ⟨rfl,_,rfl,_⟩|⟨g,p,c,cells,h1,h2,h3,h4,h5⟩
 ·omega
 ·exact ⟨g,p,c,cells,h1,h2,h3,h4,h.1,h5⟩
theorem Lies.Pm {cells:A_} (h1:xs.length=n * s) (h2:n<=c) (h3:p+c * s<=cells.size) (h4:∀ j,j < xs.length->cells[p+j]?=xs[j]?):Lies s [(g,cells)] (.slice (some ⟨g,p,none⟩) n c) n xs :=
 ⟨h1,.inr ⟨g,p,c,cells,rfl,rfl,h2,h3,h4⟩⟩
theorem Lies.from {w w0:World} {X rs:Rws} {ss:List Sl} {v:Value} (h:Lies s X v n xs) (hm:Own w0 w (A++(X++rs)) ss):From s w v n xs:=by
 refine ⟨h.1,?_⟩;rcases h.2 with ⟨rfl,rfl,rfl,rfl⟩|⟨g,p,c,cells,rfl,rfl,hc,hs,hcells⟩
 ·exact .inl ⟨rfl,rfl,rfl⟩
 ·refine .inr ⟨_,_,rfl,fun j u hj=>?_⟩;have hr:=hm.row (i:=A.length) (g:=g) (cs:=cells) (by simp);have hl:=(List.getElem?_eq_some_iff.1 hj).1;rw [Addr.add_lit,hr.cell,hcells j hl,hj]
theorem Own.A1J {w0 w:World} {rs:Rws} {ss:List Sl} {v:Value} {e:TypeId} (h:Own w0 w rs ((v,e,xs)::ss)) (hq:e < Ey:=by first|assumption|(simp [Ey];done)):∃ X,Lies 1 X v xs.length xs/\Own w0 w (X++rs) ss:=by
 have hs:=h.get 0 rfl hq;rcases hs.2 with ⟨hv,h0⟩|⟨g,cap,cur,hv,hb,hh,hn,hcap,hsz,ht⟩
 ·simp only at hv h0;have hx:xs=[]:=List.length_eq_zero_iff.1 h0;subst hx;exact ⟨[],⟨by simp,.inl ⟨hv,rfl,rfl,rfl⟩⟩,h.J9⟩
 ·simp only at hv hb hh hn hcap hsz ht;refine ⟨[(g,cur)],⟨by simp,.inr ⟨g,0,cap,cur,rfl,hv,hn,by omega,fun j hj=>?_⟩⟩,?_⟩
  ·rw [Nat.mul_one] at ht;rw [Nat.zero_add,<- ht,List.getElem?_take_of_lt (by omega)];simp
  ·have hd:=h.J9;obtain ⟨h1,h2,h3⟩:=List.nodup_append.1 h.apart;have hvb:v.ownBlock=some g:=by rw [hv];rfl
   rw [List.filterMap_cons,hvb] at h1 h3;rw [List.nodup_cons] at h1;have hg:g ∉ rs.map (·.1):=fun hm=>h3 g (by simp) g hm rfl;refine ⟨⟨hd.mem.below,?_,?_,?_⟩,hd.sl,?_⟩
   ·intro p hp;rcases List.mem_cons.1 hp with rfl|hp
    ·exact hb
    ·exact hd.mem.own p hp
   ·intro p hp;rcases List.mem_cons.1 hp with rfl|hp
    ·exact ⟨e,hh⟩
    ·exact hd.mem.rows p hp
   ·rw [List.singleton_append,List.map_cons,List.nodup_cons];exact ⟨hg,hd.mem.apart⟩
   ·refine List.nodup_append.2 ⟨h1.2,by rw [List.singleton_append,List.map_cons,List.nodup_cons];exact ⟨hg,h2⟩,?_⟩;intro a ha b hb2 hab;subst hab;rw [List.singleton_append,List.map_cons] at hb2;rcases List.mem_cons.1 hb2 with rfl|hb2
    ·exact h1.1 ha
    ·exact h3 a (List.mem_cons_of_mem _ ha) a hb2 rfl
theorem Own.ofB {w0 w:World} {rs:Rws} {ss:List Sl} (h:Own w0 w rs ss) {x:Ending} (hb:OwnB w l x w'):∃ X v,x=.returned v/\Lies 1 X v l.length (vs .u8 l)/\Own w0 w' (X++rs) ss:=by
 obtain ⟨⟨v,rfl,ho⟩,hb⟩:=hb;have ho':w'.ownsRow w.heap.size 5 1 v (vs .u8 l).length (vs .u8 l):=by rw [Ai];exact ho
 obtain ⟨X,hX,hm⟩:=(h.fG hb ho').A1J;rw [Ai] at hX;exact ⟨X,v,rfl,hX,hm⟩
section
variable {P:Program} {w w0:World} {o:Oper} {a:Act} {rs:Rws} {ss:List Sl}
theorem ix (ho:o.op=.indexAddr t x y) (he:OW P t e s bytes i z) (hx:a.eval x=.slice (some ⟨g,p,none⟩) n c) (hy:a.eval y=.int q zz) (hz:zz=k) (hk:k < n) :
  (execOp a.eval o).run P w=.ok (.value (.pointer (some ⟨g,p+k * s,none⟩))) w:=by
 subst hz;unfold execOp;simp only [ho,hx,hy,Instr.indexAt,asIntOf,s_b,s_p,r_o,r_u he.under];simp [show (k:Int) < (n:Int) by omega,sizeOf,typeInfo,he.info,he.size,Addr.add_lit]
theorem ix1 (ho:o.op=.indexAddr t x y) (he:OW P t e 1 bytes i z) (hx:a.eval x=.slice (some ⟨g,p,none⟩) n c) (hy:a.eval y=.int q zz) (hz:zz=k) (hk:k < n) :
  (execOp a.eval o).run P w=.ok (.value (.pointer (some ⟨g,p+k,none⟩))) w:=by
 have:=ix (P:=P) (w:=w) ho he hx hy hz hk;rwa [Nat.mul_one] at this
theorem Lies.put {cells:A_} (hX:Lies s [(g,cells)] (.slice (some ⟨g,p,none⟩) n c) n xs) {j:Nat} (hj:j < xs.length) (u:Value):p+j < cells.size/\Lies s [(g,cells.setIfInBounds (p+j) u)] (.slice (some ⟨g,p,none⟩) n c) n (xs.set j u):=by
 rcases hX.2 with ⟨e,_⟩|⟨g',p',c',cells',e1,e2,hc,hs,hcells⟩
 ·cases e
 ·cases e1;cases e2
  have hlt:p+j < cells.size:=by
   have:n * s<=c * s:=Nat.mul_le_mul_right s hc;have:=hX.1;omega
  refine ⟨hlt,by rw [List.length_set];exact hX.1,.inr ⟨g,p,c,_,rfl,rfl,hc,by rw [Array.size_setIfInBounds];exact hs,fun k hk=>?_⟩⟩;rw [List.length_set] at hk;by_cases hjk:j=k
  ·subst hjk;rw [Array.getElem?_setIfInBounds_self_of_lt hlt,List.getElem?_set_self hj]
  ·rw [Array.getElem?_setIfInBounds_ne (by omega),List.getElem?_set_ne hjk];exact hcells k hk
theorem Lies.cell {cells:A_} (hX:Lies s [(g,cells)] (.slice (some ⟨g,p,none⟩) n c) n xs) {j:Nat} (hj:xs[j]?=some u):cells[p+j]?=some u:=by
 rcases hX.2 with ⟨e,_⟩|⟨g',p',c',cells',e1,e2,hc,hs,hcells⟩
 ·cases e
 ·cases e1;cases e2;rw [hcells j (List.getElem?_eq_some_iff.1 hj).1,hj]
end
theorem aK (k:IntKind) (l:I_) (i:Nat) (x:Int):(vs k l).set i (.int k x)=vs k (l.set i x):=by simp [vs,List.map_set]
theorem qy (k:IntKind) (l m:I_):vs k l++vs k m=vs k (l++m):=by simp [vs]
theorem yZ (k:IntKind) (x:Int):[Value.int k x]=vs k [x]:=rfl
theorem nP:∃ i,OW prog 22 5 1 1 i (.int .u8 0):=OW.ex underlying22 (by kernel_rfl) rfl
theorem wM:∃ i,OW prog 124 3 1 8 i (.int .i64 0):=OW.ex underlying124 (by kernel_rfl) rfl
theorem A5v:∃ i,OW prog 102 50 2 16 i (.agg #[.int .i64 0,.int .i64 0]):=OW.ex underlying102 (by kernel_rfl) rfl
def rvk (l:I_) (k:Nat):I_:=(List.range l.length).map fun i=>if i < k\/l.length - k<=i then gi l (l.length - 1 - i) else gi l i
theorem F7 (l:I_) (k:Nat):(rvk l k).length=l.length:=by simp [rvk]
theorem PG (l:I_) (k i:Nat) (h:i < l.length):gi (rvk l k) i=if i < k\/l.length - k<=i then gi l (l.length - 1 - i) else gi l i:=by simp [gi,rvk,h]
theorem Xc {l m:I_} (h:l.length=m.length) (g:∀ i,i < l.length->gi l i=gi m i):l=m:=by
 apply List.ext_getElem h;intro i h1 h2;have:=g i h1;rwa [BZ l i h1,BZ m i h2] at this
theorem wo (l:I_) (i j:Nat) (x:Int) (h:i < l.length):gi (l.set i x) j=if i=j then x else gi l j:=by
 by_cases hij:i=j
 ·subst hij;simp [gi,h]
 ·simp [gi,hij]
theorem Rw (l:I_):rvk l 0=l:=Xc (F7 l 0) (fun i hi=>by
 rw [F7] at hi
 rw [PG l 0 i hi,if_neg (by omega)])
theorem rY (l:I_) (k:Nat) (h:k < l.length - 1 - k):((rvk l k).set k (gi (rvk l k) (l.length - 1 - k))).set (l.length - 1 - k) (gi (rvk l k) k)=rvk l (k+1):=by
 refine Xc (by simp [F7]) (fun i hi=>?_);rw [List.length_set,List.length_set,F7] at hi;rw [wo _ _ _ _ (by rw [List.length_set,F7];omega),wo _ _ _ _ (by rw [F7];omega),PG l (k+1) i hi,PG l k i hi,PG l k (l.length - 1 - k) (by omega),PG l k k (by omega)];rw [if_neg (show ¬ (k < k\/l.length - k<=k) by omega),if_neg (show ¬ (l.length - 1 - k < k\/l.length - k<=l.length - 1 - k) by omega)];by_cases h1:l.length - 1 - k=i
 ·rw [if_pos h1,if_pos (show i < k+1\/l.length - (k+1)<=i by omega)];congr 1;omega
 ·rw [if_neg h1];by_cases h2:k=i
  ·rw [if_pos h2,if_pos (show i < k+1\/l.length - (k+1)<=i by omega)];congr 1;omega
  ·rw [if_neg h2];by_cases h3:i < k\/l.length - k<=i
   ·rw [if_pos h3,if_pos (by omega)]
   ·rw [if_neg h3,if_neg (by omega)]
theorem A03 (l:I_) (k:Nat) (h:l.length - 1 - k<=k) (hk:k<=l.length):rvk l k=l.reverse:=by
 refine Xc (by simp [F7]) (fun i hi=>?_);rw [F7] at hi
 have hr:gi l.reverse i=gi l (l.length - 1 - i):=by
  rw [BZ _ _ (by simpa using hi),BZ _ _ (by omega),List.getElem_reverse]
 rw [PG l k i hi,hr];by_cases h3:i < k\/l.length - k<=i
 ·rw [if_pos h3]
 ·rw [if_neg h3];congr 1;omega
def kG (w0:World) (v:Value) (l:I_) (rs:Rws) (ss:List Sl) (x:Ending) (w':World):Prop:=(∃ u,x=.returned u)/\∃ X,Lies 1 X v l.length (vs .u8 l.reverse)/\Own w0 w' (X++rs) ss
theorem WR (g p c:Nat) (cells:A_) (l:I_) (w0 w:World) (rs:Rws) (ss:List Sl) (hm:Own w0 w ((g,cells)::rs) ss) (hX:Lies 1 [(g,cells)] (.slice (some ⟨g,p,none⟩) l.length c) l.length (vs .u8 l)) (hl:l.length<=100000000) (h0:0 < l.length):Calls prog 146 #[.slice (some ⟨g,p,none⟩) l.length c] w (kG w0 (.slice (some ⟨g,p,none⟩) l.length c) l rs ss):=by
 rw [<- Rw l] at hX;rw [Rw] at hX;have HX0:Hid (Lies 1 [(g,cells)] (.slice (some ⟨g,p,none⟩) l.length c) l.length (vs .u8 (rvk l 0))):=h_ (by rw [Rw];exact hX);clear hX;obtain ⟨i5,hE⟩:=nP;have HE:=h_ hE;clear hE;go_enter func146,ntmps146;go_wp2
 go_loopw [2,3] (fun z y wr=>∃ k:Nat,k<=l.length/\k<=l.length - k/\z=.int .i64 k/\y=.int .i64 ((l.length:Int) - 1 - k)/\∃ cells,Lies 1 [(g,cells)] (.slice (some ⟨g,p,none⟩) l.length c) l.length (vs .u8 (rvk l k))/\Own w0 wr ((g,cells)::rs) ss) (fun z _ _=>l.length - (intOf z).toNat)
 case atStart=>exact ⟨0,by omega,by omega,rfl,by go_num,cells,HX0.out,hm⟩
 case round =>
  clear hm HX0;obtain ⟨k,hk,hk2,rfl,rfl,cells,hX,hm⟩:=hrel;by_cases hlt:k < l.length - 1 - k
  ·have q1:decide ((k:Int) < (l.length:Int) - 1 - k)=true:=d_t;obtain ⟨j,hj⟩:∃ j:Nat,j=l.length - 1 - k:=⟨_,rfl⟩;have e1:(l.length:Int) - 1 - k=(j:Int):=by omega
   rw [e1] at q1 ⊢;have hjl:j < l.length:=by omega
   have hkl:k < l.length:=by omega
   have hkj:k ≠ j:=by omega
   have HS:=h_ (rY l k hlt);rw [<- hj] at HS;have HJ:=h_ hj;clear hj;have HX:=h_ hX;clear hX;have c1:cells[p+k]?=some (.int .u8 (gi (rvk l k) k)):=HX.out.cell (Fg _ _ _ (by rw [F7];exact hkl));have c2:cells[p+j]?=some (.int .u8 (gi (rvk l k) j)):=HX.out.cell (Fg _ _ _ (by rw [F7];exact hjl));have C1:=h_ c1;have C2:=h_ c2;clear c1 c2;obtain ⟨s1,X1⟩:=HX.out.put (j:=k) (by rw [Ai,F7];exact hkl) (.int .u8 (gi (rvk l k) j));obtain ⟨s2,X2⟩:=X1.put (j:=j) (by rw [List.length_set,Ai,F7];exact hjl) (.int .u8 (gi (rvk l k) k));rw [aK,aK,HS.out] at X2;have HX2:=h_ X2;clear X1 X2;generalize gi (rvk l k) k=x at *;generalize gi (rvk l k) j=y at *;have d1:IntKind.i64.wrap ((j:Int) - 1)=(l.length:Int) - 1 - ((k+1:Nat):Int):=by rw [IntWalk.i64_in _ (by omega)];omega
   go_upto_region 3 with fail
   refine rO hm 13 (.rds [(0,false),(1,false),(2,false),(3,false),(4,false),(5,false),(6,false),(7,true),(8,false),(9,false),(10,false),(11,true),(12,false)] (.brk 13 15 (.rds [(14,false)] (.brk 15 16 .done)))) ?_;clear hm;intro w hm;simp only [KT.rds]
   iterate 6 refine kq ?_
   (refine K_p rfl rfl (fun W=>ix1 (k:=j) rfl HE.out rfl rfl rfl hjl) ?_)
   try simp only [Act.put,s3]
   refine km (fun W hm=>ld 0 hm rfl rfl rfl (ot rfl) C2.out) ?_
   iterate 2 refine kq ?_
   (refine K_p rfl rfl (fun W=>ix1 (k:=k) rfl HE.out rfl rfl rfl hkl) ?_)
   try simp only [Act.put,s3]
   refine km (fun W hm=>ld 0 hm rfl rfl rfl (ot rfl) C1.out) ?_
   (refine K_p rfl rfl (fun W=>ix1 (k:=k) rfl HE.out rfl rfl rfl hkl) ?_)
   try simp only [Act.put,s3]
   (refine Em rfl rfl (AZ 0 hm rfl rfl (Ac rfl) rfl (ot rfl) s1 rfl rfl rfl ?_))
   clear hm;intro w hm
   try simp only [s2,List.set,List.eraseIdx,s3] at hm
   refine ⟨fun W=>Own _ W _ _,hm,?_⟩
   try simp only [Act.put,s3]
   (refine K_p rfl rfl (fun W=>ix1 (k:=j) rfl HE.out rfl rfl rfl hjl) ?_)
   try simp only [Act.put,s3]
   (refine Em rfl rfl (AZ 0 hm rfl rfl (Ac rfl) rfl (ot rfl) s2 rfl rfl rfl ?_))
   clear hm;intro w hm
   try simp only [s2,List.set,List.eraseIdx,s3] at hm
   refine ⟨fun W=>Own _ W _ _,hm,?_⟩
   try simp only [Act.put,s3]
   refine Ba ?_;go_simp;go_wp2;go_roundw
   case rel=>exact ⟨k+1,by omega,by omega,by go_num,by go_num,_,HX2.out,hm⟩
   case measure=>simp [intOf];omega
  ·have q1:decide ((k:Int) < (l.length:Int) - 1 - k)=false:=d_f;rw [A03 l k (by omega) hk] at hX;have HX:=h_ hX;clear hX;go_wp2
   go_end0
   exact ⟨⟨_,rfl⟩,_,HX.out,hm⟩
theorem From.one {w:World} {g:Nat} {v:Value} (h:AA w g #[v]):From 1 w (.slice (some ⟨g,0,none⟩) 1 1) 1 [v]:=by
 refine From.Pm h 0 rfl (fun j u hj=>?_);have hl:=(List.getElem?_eq_some_iff.1 hj).1;simp at hl;subst hl;simpa using hj
theorem tJ {v:Value} (h:v.oneCell'=true):∀ u ∈ [v],u.oneCell'=true:=fun u hu=>by rw [List.mem_singleton.1 hu];exact h
def wi (n lo hi:Int):Bool:=decide (lo<=n/\n<=hi)
theorem Eu {n lo hi:Int} (h:lo<=n) (k:n<=hi):wi n lo hi=true:=decide_eq_true ⟨h,k⟩
theorem Ri {n lo hi:Int} (h:¬ (lo<=n/\n<=hi)):wi n lo hi=false:=decide_eq_false h
theorem FX (n lo hi:Int) (w:World):Calls prog 100 #[.int .i64 n,.int .i64 lo,.int .i64 hi] w fun x w'=>(x=.returned (.bool (wi n lo hi)))/\w'=w:=by
 by_cases h1:lo<=n
 ·have q1:decide (lo<=n)=true:=decide_eq_true h1;by_cases h2:n<=hi
  ·have q2:decide (n<=hi)=true:=decide_eq_true h2;rw [Eu h1 h2];exact xhu
  ·have q2:decide (n<=hi)=false:=decide_eq_false h2;rw [Ri (fun h=>h2 h.2)];exact xhu
 have q1:decide (lo<=n)=false:=decide_eq_false h1;rw [Ri (fun h=>h1 h.1)];exact xhu
theorem QK (n lo hi:Int) (w:World):Calls prog 119 #[.int .i64 n,.int .i64 lo,.int .i64 hi] w fun x w'=>(x=.returned (.bool (wi n lo hi)))/\w'=w:=by
 by_cases h1:lo<=n
 ·have q1:decide (lo<=n)=true:=decide_eq_true h1;by_cases h2:n<=hi
  ·have q2:decide (n<=hi)=true:=decide_eq_true h2;rw [Eu h1 h2];exact xhv
  ·have q2:decide (n<=hi)=false:=decide_eq_false h2;rw [Ri (fun h=>h2 h.2)];exact xhv
 have q1:decide (lo<=n)=false:=decide_eq_false h1;rw [Ri (fun h=>h1 h.1)];exact xhv
theorem JH (n lo hi:Int) (w:World):Calls prog 210 #[.int .i64 n,.int .i64 lo,.int .i64 hi] w fun x w'=>(x=.returned (.bool (wi n lo hi)))/\w'=w:=by
 by_cases h1:lo<=n
 ·have q1:decide (lo<=n)=true:=decide_eq_true h1;by_cases h2:n<=hi
  ·have q2:decide (n<=hi)=true:=decide_eq_true h2;rw [Eu h1 h2];exact xhw
  ·have q2:decide (n<=hi)=false:=decide_eq_false h2;rw [Ri (fun h=>h2 h.2)];exact xhw
 have q1:decide (lo<=n)=false:=decide_eq_false h1;rw [Ri (fun h=>h1 h.1)];exact xhw
@[reducible] def VN (V M:Int):A_:=#[.int .i64 V,.int .i64 M]
def DX (V M:Int):Bool:=if M < 1\/4 < M then decide (V=0/\M=0) else decide (2 ^ (7 * (M - 1)).toNat<=V/\V < 2 ^ (7 * M).toNat)
theorem rb {a b:Bool} (h:a=b):Ending.returned (.bool a)=.returned (.bool b):=by rw [h]
theorem aH (V M:Int) (h0:0<=M) (h1:M<=4) (w:World):Calls prog 220 #[.agg (VN V M)] w (RB w (.bool (DX V M))):=by
 go_enter func220,ntmps220;have hm:=Own.nil w;have q0:M=0\/M=1\/M=2\/M=3\/M=4:=by omega
 clear h0 h1;rcases q0 with rfl|rfl|rfl|rfl|rfl
 ·go_wp2_with (first
  |(with_reducible first|(refine wl _ 0 hm ?_)|(refine wla _ 0 hm ?_)|(refine wb hm ?_;clear hm;intro w g hm)))
  all_goals (go_ret;exact ⟨rb (by simp [DX, *]),hm.below⟩)
 ·by_cases q1:1<=V
  ·have q2:decide (1<=V)=true:=decide_eq_true q1
   go_upto_region 3 with (first
  |(with_reducible first|(refine wl _ 0 hm ?_)|(refine wb hm ?_;clear hm;intro w g hm)))
   exact xag
  ·have q2:decide (1<=V)=false:=decide_eq_false q1
   go_upto_region 3 with (first
  |(with_reducible first|(refine wl _ 0 hm ?_)|(refine wb hm ?_;clear hm;intro w g hm)))
   exact xaf
 ·by_cases q1:128<=V
  ·have q2:decide (128<=V)=true:=decide_eq_true q1
   go_upto_region 3 with (first
  |(with_reducible first|(refine wl _ 0 hm ?_)|(refine wb hm ?_;clear hm;intro w g hm)))
   exact xag
  ·have q2:decide (128<=V)=false:=decide_eq_false q1
   go_upto_region 3 with (first
  |(with_reducible first|(refine wl _ 0 hm ?_)|(refine wb hm ?_;clear hm;intro w g hm)))
   exact xaf
 ·by_cases q1:16384<=V
  ·have q2:decide (16384<=V)=true:=decide_eq_true q1
   go_upto_region 3 with (first
  |(with_reducible first|(refine wl _ 0 hm ?_)|(refine wb hm ?_;clear hm;intro w g hm)))
   exact xag
  ·have q2:decide (16384<=V)=false:=decide_eq_false q1
   go_upto_region 3 with (first
  |(with_reducible first|(refine wl _ 0 hm ?_)|(refine wb hm ?_;clear hm;intro w g hm)))
   exact xaf
 ·by_cases q1:2097152<=V
  ·have q2:decide (2097152<=V)=true:=decide_eq_true q1
   go_upto_region 3 with (first
  |(with_reducible first|(refine wl _ 0 hm ?_)|(refine wb hm ?_;clear hm;intro w g hm)))
   exact xag
  ·have q2:decide (2097152<=V)=false:=decide_eq_false q1
   go_upto_region 3 with (first
  |(with_reducible first|(refine wl _ 0 hm ?_)|(refine wb hm ?_;clear hm;intro w g hm)))
   exact xaf
def vnx (V c:Int):Int:=V * 128+c % 128
theorem OG (x:Int) (h0:0<=x) (h1:x < 256):bits .and .u8 x 127=x % 128:=bits_mask .u8 8 (by decide) wraps_u8 7 (by decide) x h0 h1
theorem tC (V c:Int) (h0:0<=V) (h1:V<=268435456) (c0:0<=c) (c1:c<=255):bits .or .i64 (V * 128) (bits .and .u8 c 127)=vnx V c:=by
 rw [OG c c0 (by omega),vnx];exact bits_join .i64 63 (by decide) (fun n h0 h1=>IntWalk.i64_in n (by omega)) 7 (V * 128) (c % 128) (by omega) (by omega) (by omega) (by omega) (by omega) (by omega)
theorem aJ (V M c:Int) (hc:c=128) (hm0:M=0) (hv:DX V M=true) (hM0:0<=M) (hM:M<=4) (hV0:0<=V) (hV:V<=65536) (c0:0<=c) (c1:c<=255) (w:World):Calls prog 182 #[.agg (VN V M),.int .u8 c] w (RB w (.tuple #[.agg (VN 0 0),.bool false,.int .i64 51])):=by
 have hb0:0<=bits .and .u8 c 127:=by rw [OG c c0 (by omega)];omega
 have hb1:bits .and .u8 c 127<=127:=by rw [OG c c0 (by omega)];omega
 have e1:=h_ (tC V c hV0 (by omega) c0 c1);have CV:Hid (∀ w,Calls prog 220 #[.agg (VN V M)] w (RB w (.bool true))):=h_ fun w=>by have:=aH V M hM0 hM w;rwa [hv] at this
 have hn:vnx V c<=8388735/\0<=vnx V c:=by rw [vnx];omega
 have q1:decide (2147483647 < bits .or .i64 (V * 128) (bits .and .u8 c 127))=false:=by rw [e1.out];exact decide_eq_false (by omega)
 subst hc hm0;clear hv;go_enter func182,ntmps182;have hm:=Own.nil w
 go_wp2_with (first
  |(go_at_call 220;refine cB (CV.out _) hm ?_;clear hm;intro w1 hm)
  |(with_reducible first|(refine wl _ 1 hm ?_)|(refine wla _ 0 hm ?_)|(refine wla _ 1 hm ?_)|(refine ws _ 0 hm ?_;clear hm;intro w hm)|(refine wa _ hm Ja ?_;clear hm;intro w g hm)|(refine wb hm ?_;clear hm;intro w g hm)))
 (refine b_r (Ae rfl rfl (hm.row 0 rfl) (ag rfl)) rfl ?_)
 exact xg6
theorem aI (V M c:Int) (hv:DX V M=true) (hM0:0<=M) (hM:M<=4) (hV0:0<=V) (hV:V<=65536) (c0:0<=c) (c1:c<=255) (hf:¬ (c=128/\M=0)) (hg:¬ (M=4/\128<=c)) (w:World):Calls prog 182 #[.agg (VN V M),.int .u8 c] w (RB w (.tuple #[.agg (VN (vnx V c) (M+1)),.bool (decide (c < 128)),.int .i64 0])):=by
 have hb0:0<=bits .and .u8 c 127:=by rw [OG c c0 (by omega)];omega
 have hb1:bits .and .u8 c 127<=127:=by rw [OG c c0 (by omega)];omega
 have e1:=h_ (tC V c hV0 (by omega) c0 c1);have CV:Hid (∀ w,Calls prog 220 #[.agg (VN V M)] w (RB w (.bool true))):=h_ fun w=>by have:=aH V M hM0 hM w;rwa [hv] at this
 have hn:vnx V c<=8388735/\0<=vnx V c:=by rw [vnx];omega
 have q1:decide (2147483647 < bits .or .i64 (V * 128) (bits .and .u8 c 127))=false:=by rw [e1.out];exact decide_eq_false (by omega)
 clear hv;by_cases k1:c=128
 ·subst k1;have k2:(M == 0)=false:=by simp;omega
  have k3:(M == 4)=false:=by simp;omega
  exact xba
 have k1:(c == 128)=false:=by simpa using k1
 by_cases k3:M=4
 ·subst k3;have k4:decide (128<=c)=false:=d_f;exact xba
 have k3:(M == 4)=false:=by simpa using k3
 exact xba
theorem gW {V M:Int} (h:DX V M=true) (hV:V<=65536) (h0:0<=M) (h1:M<=4):M<=3/\0<=V:=by
 have q0:M=0\/M=1\/M=2\/M=3\/M=4:=by omega
 rcases q0 with rfl|rfl|rfl|rfl|rfl<;>simp [DX] at h<;>omega
theorem hcomes (V M most:Int) (h0:0<=M) (h1:M<=4) (w:World):Calls prog 181 #[.agg (VN V M),.int .i64 most] w (RB w (.bool (DX V M && decide (V<=most)))):=by
 have CV:Hid (∀ w,Calls prog 220 #[.agg (VN V M)] w (RB w (.bool (DX V M)))):=h_ fun w=>aH V M h0 h1 w;cases hv:DX V M
 all_goals (rw [hv] at CV;clear hv)
 ·go_enter func181,ntmps181;have hm:=Own.nil w
  go_wp2_with (first
  |(go_at_call 220;refine cB (CV.out _) hm ?_;clear hm;intro w1 hm)
  |(with_reducible first|(refine wla _ 0 hm ?_)|(refine wb hm ?_;clear hm;intro w g hm)))
  go_ret;exact xg6
 go_enter func181,ntmps181;have hm:=Own.nil w
 go_wp2_with (first
  |(go_at_call 220;refine cB (CV.out _) hm ?_;clear hm;intro w1 hm)
  |(with_reducible first|(refine wl _ 0 hm ?_)|(refine wla _ 0 hm ?_)|(refine wb hm ?_;clear hm;intro w g hm)))
 all_goals (go_ret;exact ⟨rb (by simp [*]),hm.below⟩)
def D5 (V M c:Int):Int:=if c=128/\M=0 then 0 else vnx V c
def EM (M c:Int):Int:=if c=128/\M=0 then 0 else M+1
def EZ (M c:Int):Bool:=decide (¬ (c=128/\M=0)/\c < 128)
def EL (V M c most:Int):Bool:=decide (¬ (c=128/\M=0)/\vnx V c<=most/\(128<=c\/0 < vnx V c))
theorem hgrow (V M c most:Int) (hv:DX V M=true) (hM0:0<=M) (hM:M<=4) (hV:V<=65536) (c0:0<=c) (c1:c<=255) (w:World):Calls prog 137 #[.agg (VN V M),.int .u8 c,.int .i64 most] w (RB w (.tuple #[.agg (VN (D5 V M c) (EM M c)),.bool (EZ M c),.bool (EL V M c most)])):=by
 obtain ⟨hM3,hV0⟩:=gW hv hV hM0 hM;by_cases hf:c=128/\M=0
 ·have CS:Hid (∀ w,Calls prog 182 #[.agg (VN V M),.int .u8 c] w (RB w (.tuple #[.agg (VN 0 0),.bool false,.int .i64 51]))):=h_ fun w=>aJ V M c hf.1 hf.2 hv hM0 hM hV0 hV c0 c1 w;rw [show D5 V M c=0 by rw [D5,if_pos hf],show EM M c=0 by rw [EM,if_pos hf],show EZ M c=false by simp [EZ,hf.1,hf.2],show EL V M c most=false by simp [EL,hf.1,hf.2]];clear hv hf;go_enter func137,ntmps137;have hm:=Own.nil w
  go_wp2_with (first
   |(go_at_call 182;refine cB (CS.out _) hm ?_;clear hm;intro w1 hm)
   |(with_reducible first|(refine wla _ 0 hm ?_)|(refine wla _ 1 hm ?_)|(refine ws _ 0 hm ?_;clear hm;intro w hm)|(refine wa _ hm Ja ?_;clear hm;intro w g hm)|(refine wb hm ?_;clear hm;intro w g hm)))
  (refine b_r (Ae rfl rfl (hm.row 0 rfl) (ag rfl)) rfl ?_)
  exact xg6
 have CS:Hid (∀ w,Calls prog 182 #[.agg (VN V M),.int .u8 c] w (RB w (.tuple #[.agg (VN (vnx V c) (M+1)),.bool (decide (c < 128)),.int .i64 0]))):=h_ fun w=>aI V M c hv hM0 hM hV0 hV c0 c1 hf (by omega) w;rw [show D5 V M c=vnx V c by rw [D5,if_neg hf],show EM M c=M+1 by rw [EM,if_neg hf]];have HD:Hid (EZ M c=decide (c < 128)):=h_ (by simp [EZ,hf]);have HO:Hid (EL V M c most=decide (vnx V c<=most/\(128<=c\/0 < vnx V c))):=h_ (by simp [EL,hf]);rw [HD.out,HO.out];clear hf hv HD HO;generalize vnx V c=n at *;by_cases k1:n<=most
 all_goals by_cases k2:c < 128
 all_goals by_cases k3:0 < n
 ·have r1:decide (n<=most)=true:=decide_eq_true k1;have r2:decide (c < 128)=true:=decide_eq_true k2;have r3:decide (0 < n)=true:=decide_eq_true k3;exact xfx
 ·have r1:decide (n<=most)=true:=decide_eq_true k1;exact xge
 ·have r1:decide (n<=most)=true:=decide_eq_true k1;have r2:decide (c < 128)=false:=decide_eq_false k2;have r3:decide (0 < n)=true:=decide_eq_true k3;exact xfx
 ·have r1:decide (n<=most)=true:=decide_eq_true k1;have r2:decide (c < 128)=false:=decide_eq_false k2;have r3:decide (0 < n)=false:=decide_eq_false k3;exact xfx
 ·have r1:decide (n<=most)=false:=decide_eq_false k1;have r2:decide (c < 128)=true:=decide_eq_true k2;have r3:decide (0 < n)=true:=decide_eq_true k3;exact xfr
 ·have r1:decide (n<=most)=false:=decide_eq_false k1;exact xge
 ·have r1:decide (n<=most)=false:=decide_eq_false k1;have r2:decide (c < 128)=false:=decide_eq_false k2;have r3:decide (0 < n)=true:=decide_eq_true k3;exact xfr
 ·have r1:decide (n<=most)=false:=decide_eq_false k1;have r2:decide (c < 128)=false:=decide_eq_false k2;exact xh7
def rpw (k:Nat):Int:=((128 ^ k:Nat):Int)
theorem A7w (k:Nat) (hk:k<=4) (w:World):Calls prog 252 #[.int .i64 k] w fun x w'=>(x=.returned (.int .i64 (rpw k)))/\w'=w:=by
 go_enter func252,ntmps252;go_wp2
 go_loopw [3,4] (fun u v wr=>∃ j:Nat,j<=k/\u=.int .i64 (rpw j)/\v=.int .i64 j/\wr=w) (fun _ v _=>k - (intOf v).toNat)
 case atStart=>exact ⟨0,by omega,rfl,rfl,rfl⟩
 case round =>
  obtain ⟨j,hj,rfl,rfl,rfl⟩:=hrel;by_cases hlt:j < k
  ·have e1:IntKind.i64.wrap (rpw j * 128)=rpw (j+1):=by
    have hp:j=0\/j=1\/j=2\/j=3:=by omega
    rcases hp with rfl|rfl|rfl|rfl<;>decide
   have e2:IntKind.i64.wrap ((j:Int)+1)=((j+1:Nat):Int):=by rw [IntWalk.i64_in _ (by omega)];push_cast;rfl
   have q1:decide ((j:Int) < k)=true:=d_t;go_wp2;go_roundw
   case rel=>exact ⟨j+1,by omega,by rw [<- e1],by go_num,by trivial⟩
   case measure=>simp [intOf];omega
  ·obtain rfl:j=k:=by omega
   go_wp2;exact xg7
theorem A89 (V M:Int) (hv:DX V M=true) (hM0:0<=M) (hM:M<=4) (hV:V<=65536) (w:World):Calls prog 219 #[.agg (VN V M)] w (RB w (.bool true)):=by
 obtain ⟨hM3,hV0⟩:=gW hv hV hM0 hM;have q0:M=0\/M=1\/M=2\/M=3:=by omega
 clear hM0 hM hM3;rcases q0 with rfl|rfl|rfl|rfl
 ·obtain rfl:V=0:=by simpa [DX] using hv
  go_enter func219,ntmps219;have hm:=Own.nil w
  exact xh5
 ·have hp:rpw 0<=V/\V < rpw 1:=by
   have h:decide ((1:Int)<=V/\V < 128)=true:=hv;exact of_decide_eq_true h
  have q1:decide (rpw 0<=V)=true:=decide_eq_true hp.1;have q2:decide (V < rpw 1)=true:=decide_eq_true hp.2;clear hv hp;go_enter func219,ntmps219;have hm:=Own.nil w
  go_upto_region 3 with (first
   |(with_reducible first|(refine wl 3 0 hm ?_)|(refine wb hm ?_;clear hm;intro w g hm)))
  refine rO hm 26 (.rds [(0,false),(1,true),(2,false),(3,false),(4,false),(5,true),(6,false),(7,false),(8,false),(9,false),(10,true),(11,false),(12,true),(13,false)] (.one 14 (.rds [(15,false),(16,false),(17,false),(18,false),(19,true),(20,false),(21,true)] (.one 22 (.rds [(23,false),(24,false),(25,false)] .done))))) ?_;clear hm;intro w hm;simp only [KT.rds];refine kq ?_;refine km (fun W hm=>ld 0 hm rfl rfl rfl (ot rfl) rfl) ?_
  iterate 2 refine kq ?_
  (first|refine kq ?_|(refine Bz rfl rfl ?_))
  try simp only [Act.put,s3]
  (first|(refine K_m rfl rfl (fun W hm=>ld 0 hm rfl rfl rfl (ot rfl) rfl) ?_)|(refine D6 rfl rfl ?_))
  try simp only [Act.put,s3]
  (first|refine kq ?_|(refine Bz rfl rfl ?_))
  try simp only [Act.put,s3]
  iterate 2 refine kq ?_
  (first|refine kq ?_|(refine Bz rfl rfl ?_))
  try simp only [Act.put,s3]
  (first|(refine K_m rfl rfl (fun W hm=>ld 0 hm rfl rfl rfl (ot rfl) rfl) ?_)|(refine D6 rfl rfl ?_))
  try simp only [Act.put,s3]
  (first|refine kq ?_|(refine Bz rfl rfl ?_))
  try simp only [Act.put,s3]
  (first|(refine K_m rfl rfl (fun W hm=>ld 0 hm rfl rfl rfl (ot rfl) rfl) ?_)|(refine D6 rfl rfl ?_))
  try simp only [Act.put,s3]
  (first|(refine K_p rfl rfl (fun W=>by go_simp;(first|(rw [IntWalk.i64_in _ (by omega)];done)|(rw [IntWalk.i64_in _ (by omega)];rfl)|rfl)) ?_)|(refine Bz rfl rfl ?_))
  try simp only [Act.put,s3]
  refine DJ rfl rfl (fun K hK=>?_);go_simp;refine (A7w 0 (by decide) _).mono ?_;rintro e w1 ⟨rfl,rfl⟩;refine hK _ _ ⟨fun W=>Own _ W _ _,fun _ h=>h,hm,?_⟩;clear hK K
  try simp only [Act.put,s3]
  (first|refine kq ?_|(refine Bz rfl rfl ?_))
  try simp only [Act.put,s3]
  iterate 2 refine kq ?_
  (first|refine kq ?_|(refine Bz rfl rfl ?_))
  try simp only [Act.put,s3]
  (first|(refine K_m rfl rfl (fun W hm=>ld 0 hm rfl rfl rfl (ot rfl) rfl) ?_)|(refine D6 rfl rfl ?_))
  try simp only [Act.put,s3]
  (first|refine kq ?_|(refine Bz rfl rfl ?_))
  try simp only [Act.put,s3]
  (first|(refine K_m rfl rfl (fun W hm=>ld 0 hm rfl rfl rfl (ot rfl) rfl) ?_)|(refine D6 rfl rfl ?_))
  try simp only [Act.put,s3]
  refine DJ rfl rfl (fun K hK=>?_);go_simp;refine (A7w 1 (by decide) _).mono ?_;exact xhl
 ·have hp:rpw 1<=V/\V < rpw 2:=by
   have h:decide ((128:Int)<=V/\V < 16384)=true:=hv;exact of_decide_eq_true h
  have q1:decide (rpw 1<=V)=true:=decide_eq_true hp.1;have q2:decide (V < rpw 2)=true:=decide_eq_true hp.2;clear hv hp;go_enter func219,ntmps219;have hm:=Own.nil w
  go_upto_region 3 with (first
   |(with_reducible first|(refine wl 3 0 hm ?_)|(refine wb hm ?_;clear hm;intro w g hm)))
  refine rO hm 26 (.rds [(0,false),(1,true),(2,false),(3,false),(4,false),(5,true),(6,false),(7,false),(8,false),(9,false),(10,true),(11,false),(12,true),(13,false)] (.one 14 (.rds [(15,false),(16,false),(17,false),(18,false),(19,true),(20,false),(21,true)] (.one 22 (.rds [(23,false),(24,false),(25,false)] .done))))) ?_;clear hm;intro w hm;simp only [KT.rds];refine kq ?_;refine km (fun W hm=>ld 0 hm rfl rfl rfl (ot rfl) rfl) ?_
  iterate 2 refine kq ?_
  (first|refine kq ?_|(refine Bz rfl rfl ?_))
  try simp only [Act.put,s3]
  (first|(refine K_m rfl rfl (fun W hm=>ld 0 hm rfl rfl rfl (ot rfl) rfl) ?_)|(refine D6 rfl rfl ?_))
  try simp only [Act.put,s3]
  (first|refine kq ?_|(refine Bz rfl rfl ?_))
  try simp only [Act.put,s3]
  iterate 2 refine kq ?_
  (first|refine kq ?_|(refine Bz rfl rfl ?_))
  try simp only [Act.put,s3]
  (first|(refine K_m rfl rfl (fun W hm=>ld 0 hm rfl rfl rfl (ot rfl) rfl) ?_)|(refine D6 rfl rfl ?_))
  try simp only [Act.put,s3]
  (first|refine kq ?_|(refine Bz rfl rfl ?_))
  try simp only [Act.put,s3]
  (first|(refine K_m rfl rfl (fun W hm=>ld 0 hm rfl rfl rfl (ot rfl) rfl) ?_)|(refine D6 rfl rfl ?_))
  try simp only [Act.put,s3]
  (first|(refine K_p rfl rfl (fun W=>by go_simp;(first|(rw [IntWalk.i64_in _ (by omega)];done)|(rw [IntWalk.i64_in _ (by omega)];rfl)|rfl)) ?_)|(refine Bz rfl rfl ?_))
  try simp only [Act.put,s3]
  refine DJ rfl rfl (fun K hK=>?_);go_simp;refine (A7w 1 (by decide) _).mono ?_;rintro e w1 ⟨rfl,rfl⟩;refine hK _ _ ⟨fun W=>Own _ W _ _,fun _ h=>h,hm,?_⟩;clear hK K
  try simp only [Act.put,s3]
  (first|refine kq ?_|(refine Bz rfl rfl ?_))
  try simp only [Act.put,s3]
  iterate 2 refine kq ?_
  (first|refine kq ?_|(refine Bz rfl rfl ?_))
  try simp only [Act.put,s3]
  (first|(refine K_m rfl rfl (fun W hm=>ld 0 hm rfl rfl rfl (ot rfl) rfl) ?_)|(refine D6 rfl rfl ?_))
  try simp only [Act.put,s3]
  (first|refine kq ?_|(refine Bz rfl rfl ?_))
  try simp only [Act.put,s3]
  (first|(refine K_m rfl rfl (fun W hm=>ld 0 hm rfl rfl rfl (ot rfl) rfl) ?_)|(refine D6 rfl rfl ?_))
  try simp only [Act.put,s3]
  refine DJ rfl rfl (fun K hK=>?_);go_simp;refine (A7w 2 (by decide) _).mono ?_;exact xhl
 ·have hp:rpw 2<=V/\V < rpw 3:=by
   have h:decide ((16384:Int)<=V/\V < 2097152)=true:=hv;exact of_decide_eq_true h
  have q1:decide (rpw 2<=V)=true:=decide_eq_true hp.1;have q2:decide (V < rpw 3)=true:=decide_eq_true hp.2;clear hv hp;go_enter func219,ntmps219;have hm:=Own.nil w
  go_upto_region 3 with (first
   |(with_reducible first|(refine wl 3 0 hm ?_)|(refine wb hm ?_;clear hm;intro w g hm)))
  refine rO hm 26 (.rds [(0,false),(1,true),(2,false),(3,false),(4,false),(5,true),(6,false),(7,false),(8,false),(9,false),(10,true),(11,false),(12,true),(13,false)] (.one 14 (.rds [(15,false),(16,false),(17,false),(18,false),(19,true),(20,false),(21,true)] (.one 22 (.rds [(23,false),(24,false),(25,false)] .done))))) ?_;clear hm;intro w hm;simp only [KT.rds];refine kq ?_;refine km (fun W hm=>ld 0 hm rfl rfl rfl (ot rfl) rfl) ?_
  iterate 2 refine kq ?_
  (first|refine kq ?_|(refine Bz rfl rfl ?_))
  try simp only [Act.put,s3]
  (first|(refine K_m rfl rfl (fun W hm=>ld 0 hm rfl rfl rfl (ot rfl) rfl) ?_)|(refine D6 rfl rfl ?_))
  try simp only [Act.put,s3]
  (first|refine kq ?_|(refine Bz rfl rfl ?_))
  try simp only [Act.put,s3]
  iterate 2 refine kq ?_
  (first|refine kq ?_|(refine Bz rfl rfl ?_))
  try simp only [Act.put,s3]
  (first|(refine K_m rfl rfl (fun W hm=>ld 0 hm rfl rfl rfl (ot rfl) rfl) ?_)|(refine D6 rfl rfl ?_))
  try simp only [Act.put,s3]
  (first|refine kq ?_|(refine Bz rfl rfl ?_))
  try simp only [Act.put,s3]
  (first|(refine K_m rfl rfl (fun W hm=>ld 0 hm rfl rfl rfl (ot rfl) rfl) ?_)|(refine D6 rfl rfl ?_))
  try simp only [Act.put,s3]
  (first|(refine K_p rfl rfl (fun W=>by go_simp;(first|(rw [IntWalk.i64_in _ (by omega)];done)|(rw [IntWalk.i64_in _ (by omega)];rfl)|rfl)) ?_)|(refine Bz rfl rfl ?_))
  try simp only [Act.put,s3]
  refine DJ rfl rfl (fun K hK=>?_);go_simp;refine (A7w 2 (by decide) _).mono ?_;rintro e w1 ⟨rfl,rfl⟩;refine hK _ _ ⟨fun W=>Own _ W _ _,fun _ h=>h,hm,?_⟩;clear hK K
  try simp only [Act.put,s3]
  (first|refine kq ?_|(refine Bz rfl rfl ?_))
  try simp only [Act.put,s3]
  iterate 2 refine kq ?_
  (first|refine kq ?_|(refine Bz rfl rfl ?_))
  try simp only [Act.put,s3]
  (first|(refine K_m rfl rfl (fun W hm=>ld 0 hm rfl rfl rfl (ot rfl) rfl) ?_)|(refine D6 rfl rfl ?_))
  try simp only [Act.put,s3]
  (first|refine kq ?_|(refine Bz rfl rfl ?_))
  try simp only [Act.put,s3]
  (first|(refine K_m rfl rfl (fun W hm=>ld 0 hm rfl rfl rfl (ot rfl) rfl) ?_)|(refine D6 rfl rfl ?_))
  try simp only [Act.put,s3]
  refine DJ rfl rfl (fun K hK=>?_);go_simp;refine (A7w 3 (by decide) _).mono ?_;exact xhl
theorem A7J (V M c:Int) (hv:DX V M=true) (hM0:0<=M) (hM:M<=4) (hV:V<=65536) (c0:0<=c) (c1:c<=255) (hf:c=128/\M=0) (w:World):Calls prog 175 #[.agg (VN V M),.int .u8 c] w (RB w (.tuple #[.agg (VN 0 0),.bool false,.int .i64 51])):=by
 obtain ⟨hM3,hV0⟩:=gW hv hV hM0 hM;have CV:Hid (∀ w,Calls prog 219 #[.agg (VN V M)] w (RB w (.bool true))):=h_ (A89 V M hv hM0 hM hV);clear hv;obtain ⟨rfl,rfl⟩:=hf;exact xao
theorem A7I (V M c:Int) (hv:DX V M=true) (hM0:0<=M) (hM:M<=4) (hV:V<=65536) (c0:0<=c) (c1:c<=255) (hf:¬ (c=128/\M=0)) (w:World):Calls prog 175 #[.agg (VN V M),.int .u8 c] w (RB w (.tuple #[.agg (VN (vnx V c) (M+1)),.bool (decide (c < 128)),.int .i64 0])):=by
 obtain ⟨hM3,hV0⟩:=gW hv hV hM0 hM;have CV:Hid (∀ w,Calls prog 219 #[.agg (VN V M)] w (RB w (.bool true))):=h_ (A89 V M hv hM0 hM hV);clear hv;have e1:vnx V c=128 * V+c % 128:=by rw [vnx];omega
 have e2:IntKind.i64.wrap (M+1)=M+1:=i_6;rw [e1];clear e1;have q3:decide (2147483647 < 128 * V+c % 128)=false:=d_f;have q5:decide (2147483647 < 128 * V)=false:=d_f;have q4:(M == 4)=false:=by simp;omega
 by_cases k1:c=128
 ·subst k1;have k2:(M == 0)=false:=by simp;omega
  rw [show 128 * V+(128:Int) % 128=128 * V by omega];clear hf;exact xao
 have k1:(c == 128)=false:=by simpa using k1
 clear hf;exact xao
def GrP (a b:Int) (d:Bool) (x:Ending):Bool->Prop
|true=>x=.returned (.tuple #[.agg (VN a b),.bool d,.bool true])
|false=>∃ a b,x=.returned (.tuple #[.agg (VN a b),.bool false,.bool false])
theorem A8s (V M c most:Int) (hv:DX V M=true) (hM0:0<=M) (hM:M<=4) (hV:V<=65536) (c0:0<=c) (c1:c<=255) (w:World):Calls prog 134 #[.agg (VN V M),.int .u8 c,.int .i64 most] w fun x w'=>GrP (D5 V M c) (EM M c) (EZ M c) x (EL V M c most)/\Below w.heap.size w w':=by
 by_cases hf:c=128/\M=0
 ·have CS:=h_ (A7J V M c hv hM0 hM hV c0 c1 hf);have hO:EL V M c most=false:=by simp [EL,hf]
  rw [hO];obtain ⟨rfl,rfl⟩:=hf;clear hO hv hM0 hM hV c0 c1;go_enter func134,ntmps134;have hm:=Own.nil w
  go_wp2_with (first
   |(go_at_call 175;refine cB (CS.out _) hm ?_;clear hm;intro w1 hm)
   |(with_reducible (first|refine wl 3 0 hm ?_|refine wl 3 1 hm ?_|refine wl 3 2 hm ?_))
   |(with_reducible refine gLd (t:=86) ?_;(first|(refine A8 rfl (ld2 0 hm rfl rfl rfl (ag rfl) rfl rfl) ?_)|(refine A8 rfl (ld2 1 hm rfl rfl rfl (ag rfl) rfl rfl) ?_)|(refine A8 rfl (ld2 2 hm rfl rfl rfl (ag rfl) rfl rfl) ?_)))
   |(with_reducible (first|refine ws 86 0 hm ?_|refine ws 86 1 hm ?_|refine ws 86 2 hm ?_|refine wu 86 0 hm ?_|refine wu 86 1 hm ?_|refine wu 86 2 hm ?_);clear hm;intro w hm)
   |(with_reducible first|(refine wa 86 hm Ja ?_;clear hm;intro w g hm)|(refine wb hm ?_;clear hm;intro w g hm)))
  (first|refine b_r (Ae rfl rfl (hm.row 0 rfl) (ag rfl)) rfl ?_|refine b_r (Ae rfl rfl (hm.row 1 rfl) (ag rfl)) rfl ?_|refine b_r (Ae rfl rfl (hm.row 2 rfl) (ag rfl)) rfl ?_)
  exact ⟨⟨0,0,rfl⟩,hm.below⟩
 ·have CS:=h_ (A7I V M c hv hM0 hM hV c0 c1 hf);have gV:D5 V M c=vnx V c:=if_neg hf;have gM:EM M c=M+1:=if_neg hf;have gD:EZ M c=decide (c < 128):=by unfold EZ;simp only [hf,not_false_eq_true,true_and]
  have gO:EL V M c most=decide (vnx V c<=most/\(128<=c\/0 < vnx V c)):=by unfold EL;simp only [hf,not_false_eq_true,true_and]
  rw [gO,gV,gM,gD];clear gO gV gM gD hf hv hM0 hM hV c0 c1;generalize vnx V c=n at *;by_cases h1:n<=most
  ·have q1:decide (most < n)=false:=d_f;by_cases h2:c < 128
   ·have q2:decide (c < 128)=true:=decide_eq_true h2;by_cases h3:n < 1
    ·have q3:decide (n < 1)=true:=decide_eq_true h3;rw [show decide (n<=most/\(128<=c\/0 < n))=false from decide_eq_false (by omega)];clear h1 h2 h3;exact xa5
    ·have q3:decide (n < 1)=false:=decide_eq_false h3;rw [show decide (n<=most/\(128<=c\/0 < n))=true from decide_eq_true (by omega),q2];clear h1 h2 h3;exact xhh
   ·have q2:decide (c < 128)=false:=decide_eq_false h2;rw [show decide (n<=most/\(128<=c\/0 < n))=true from decide_eq_true (by omega),q2];clear h1 h2;exact xhh
  ·have q1:decide (most < n)=true:=d_t;rw [show decide (n<=most/\(128<=c\/0 < n))=false from decide_eq_false (by omega)];clear h1;exact xa5
@[reducible] def MS (a V M m p s k:Int):A_:=#[.int .i64 a,.int .i64 V,.int .i64 M,.int .i64 m,.int .i64 p,.int .u32 s,.int .i64 k]
theorem A1r (s k:Int) (k0:0<=k) (k1:k<=3) (s0:0<=s) (s1:s < 2 ^ (8 * k).toNat) (w:World):Calls prog 183 #[.int .u32 s,.int .i64 k] w (RB w (.bool true)):=by
 have w1:wi k 0 3=true:=Eu k0 k1;have q0:k=0\/k=1\/k=2\/k=3:=by omega
 clear k0 k1;rcases q0 with rfl|rfl|rfl|rfl
 ·have hs:s < 1:=s1;have q2:s / 1=0:=by omega
  exact xbl
 ·have hs:s < 256:=s1;have q2:s / 256=0:=by omega
  exact xbl
 ·have hs:s < 65536:=s1;have q2:s / 65536=0:=by omega
  exact xbl
 have hs:s < 16777216:=s1;have q2:s / 16777216=0:=by omega
 exact xbl
theorem Sr (n:Int) (n0:1<=n) (n1:n<=65536)  (w:World):Calls prog 142 #[.int .i64 n,.agg (MS 0 0 0 0 0 0 0)] w (RB w (.bool true)):=by
 have wn:wi n 1 65536=true:=Eu n0 n1;have w0_:wi 0 1 n=false:=Ri (by omega);go_enter func142,ntmps142;have hm:=Own.nil w
 go_wp2_with (first
  |(go_at_call 100;refine (FX _ _ _ _).mono ?_;rintro e w1 ⟨rfl,rfl⟩)
  |(with_reducible first|(refine wl _ 0 hm ?_)|(refine wl _ 1 hm ?_))
  |(refine A8 rfl (ld3 0 hm rfl rfl rfl (ag rfl) rfl rfl rfl) ?_)
  |(with_reducible first|(refine wla _ 1 hm ?_)|(refine ws _ 0 hm ?_;clear hm;intro w hm)|(refine wa _ hm qh ?_;clear hm;intro w g hm)|(refine wb hm ?_;clear hm;intro w g hm)))
 go_ret;exact xg6
theorem O6 (n:Int) (n0:1<=n) (n1:n<=65536) (V M:Int) (hv:DX V M=true) (hM0:0<=M) (hM:M<=4) (hV:V<=n) (w:World):Calls prog 142 #[.int .i64 n,.agg (MS 1 V M 0 0 0 0)] w (RB w (.bool true)):=by
 have wn:wi n 1 65536=true:=Eu n0 n1;have w0_:wi 0 1 n=false:=Ri (by omega);have CC:Hid (∀ w,Calls prog 181 #[.agg (VN V M),.int .i64 n] w (RB w (.bool true))):=h_ fun w=>by have:=hcomes V M n hM0 hM w;rwa [hv,decide_eq_true hV] at this
 exact xhm
theorem O5 (n:Int) (n0:1<=n) (n1:n<=65536) (V M m:Int) (m0:1<=m) (m1:m<=n) (hv:DX V M=true) (hM0:0<=M) (hM:M<=4) (hV:V<=m) (w:World):Calls prog 142 #[.int .i64 n,.agg (MS 2 V M m 0 0 0)] w (RB w (.bool true)):=by
 have wn:wi n 1 65536=true:=Eu n0 n1;have wm:wi m 1 n=true:=Eu m0 m1;have wp:wi 0 1 m=false:=Ri (by omega);have CC:Hid (∀ w,Calls prog 181 #[.agg (VN V M),.int .i64 m] w (RB w (.bool true))):=h_ fun w=>by have:=hcomes V M m hM0 hM w;rwa [hv,decide_eq_true hV] at this
 exact xhm
theorem Yt (n:Int) (n0:1<=n) (n1:n<=65536) (m p:Int) (m0:1<=m) (m1:m<=n) (p0:1<=p) (p1:p<=m) (s k:Int) (k0:0<=k) (k1:k<=3) (s0:0<=s) (s1:s < 2 ^ (8 * k).toNat) (w:World):Calls prog 142 #[.int .i64 n,.agg (MS 3 0 0 m p s k)] w (RB w (.bool true)):=by
 have wn:wi n 1 65536=true:=Eu n0 n1;have wm:wi m 1 n=true:=Eu m0 m1;have wp:wi p 1 m=true:=Eu p0 p1;have CS:Hid (∀ w,Calls prog 183 #[.int .u32 s,.int .i64 k] w (RB w (.bool true))):=h_ fun w=>A1r s k k0 k1 s0 s1 w;clear s1;go_enter func142,ntmps142;have hm:=Own.nil w
 go_wp2_with (first
  |(go_at_call 100;refine (FX _ _ _ _).mono ?_;rintro e w1 ⟨rfl,rfl⟩)
  |(go_at_call 183;refine cB (CS.out _) hm ?_;clear hm;intro w1 hm)
  |(with_reducible first|(refine wl _ 0 hm ?_)|(refine wl _ 1 hm ?_))
  |(refine A8 rfl (ld3 0 hm rfl rfl rfl (ag rfl) rfl rfl rfl) ?_)
  |(refine A8 rfl (ld2 1 hm rfl rfl rfl (ag rfl) rfl rfl) ?_)
  |(with_reducible first|(refine ws _ 0 hm ?_;clear hm;intro w hm)|(refine wa _ hm qh ?_;clear hm;intro w g hm)|(refine wb hm ?_;clear hm;intro w g hm)))
 go_ret;exact xg6
theorem Yr (n:Int) (n0:1<=n) (n1:n<=65536) (s k:Int) (k0:0<=k) (k1:k<=3) (s0:0<=s) (s1:s < 2 ^ (8 * k).toNat) (w:World):Calls prog 142 #[.int .i64 n,.agg (MS 5 0 0 0 0 s k)] w (RB w (.bool true)):=by
 have wn:wi n 1 65536=true:=Eu n0 n1;have w0_:wi 0 1 n=false:=Ri (by omega);have CS:Hid (∀ w,Calls prog 183 #[.int .u32 s,.int .i64 k] w (RB w (.bool true))):=h_ fun w=>A1r s k k0 k1 s0 s1 w;clear s1;go_enter func142,ntmps142;have hm:=Own.nil w
 go_wp2_with (first
  |(go_at_call 100;refine (FX _ _ _ _).mono ?_;rintro e w1 ⟨rfl,rfl⟩)
  |(go_at_call 183;refine cB (CS.out _) hm ?_;clear hm;intro w1 hm)
  |(with_reducible first|(refine wl _ 0 hm ?_)|(refine wl _ 1 hm ?_))
  |(refine A8 rfl (ld3 0 hm rfl rfl rfl (ag rfl) rfl rfl rfl) ?_)
  |(with_reducible first|(refine wla _ 1 hm ?_)|(refine ws _ 0 hm ?_;clear hm;intro w hm)|(refine wa _ hm qh ?_;clear hm;intro w g hm)|(refine wb hm ?_;clear hm;intro w g hm)))
 go_ret;exact xg6
theorem A2f (n:Int) (w:World):Calls prog 138 #[.int .i64 n,.agg (MS 0 0 0 0 0 0 0),.int .u8 0] w (RB w (.tuple #[.agg (MS 5 0 0 0 0 0 0),.bool true])):=xhg
theorem A2e (n:Int) (w:World):Calls prog 138 #[.int .i64 n,.agg (MS 0 0 0 0 0 0 0),.int .u8 1] w (RB w (.tuple #[.agg (MS 1 0 0 0 0 0 0),.bool true])):=xhg
theorem A2d (n c:Int) (h:1 < c) (w:World):Calls prog 138 #[.int .i64 n,.agg (MS 0 0 0 0 0 0 0),.int .u8 c] w (RB w (.tuple #[.agg (MS 1 0 0 0 0 0 0),.bool false])):=by
 have q1:(c == 0)=false:=by simp;omega
 have q2:decide (c<=1)=false:=d_f;exact xhg
theorem YN (n m:Int) (V M c:Int) (hv:DX V M=true) (hM0:0<=M) (hM:M<=4) (c0:0<=c) (c1:c<=255) (hV:V<=n) (hb:n<=65536) (hd:EZ M c=true) (w:World):Calls prog 139 #[.int .i64 n,.agg (MS 1 V M 0 0 0 0),.int .u8 c] w (RB w (.tuple #[.agg (MS 2 0 0 (D5 V M c) 0 0 0),.bool (EL V M c n)])):=by
 have CG:=fun w=>hgrow V M c n hv hM0 hM (by omega) c0 c1 w;simp only [hd] at CG;have CG:=h_ CG;clear hv;generalize D5 V M c=x at *;generalize EM M c=y at *;generalize EL V M c n=z at *;clear hd;go_enter func139,ntmps139;have hm:=Own.nil w
 go_wp2_with (first
  |(go_at_call 137;refine cB (CG.out _) hm ?_;clear hm;intro w1 hm)
  |(with_reducible refine wl _ 0 hm ?_)
  |(refine A8 rfl (ld2 0 hm rfl rfl rfl (ag rfl) rfl rfl) ?_)
  |(refine A8 rfl (ld2 1 hm rfl rfl rfl (ag rfl) rfl rfl) ?_)
  |(with_reducible first|(refine wla _ 2 hm ?_)|(refine ws _ 0 hm ?_;clear hm;intro w hm)|(refine ws _ 1 hm ?_;clear hm;intro w hm)|(refine ws _ 2 hm ?_;clear hm;intro w hm)|(refine wu _ 2 hm ?_;clear hm;intro w hm)|(refine wa _ hm Ja ?_;clear hm;intro w g hm)|(refine wa _ hm H9 ?_;clear hm;intro w g hm)|(refine wb hm ?_;clear hm;intro w g hm)))
 (refine b_r (Af rfl rfl (hm.row 1 rfl) (ag rfl)) rfl ?_)
 exact xg6
theorem je (n m:Int) (V M c:Int) (hv:DX V M=true) (hM0:0<=M) (hM:M<=4) (c0:0<=c) (c1:c<=255) (hV:V<=n) (hb:n<=65536) (hd:EZ M c=false) (w:World):Calls prog 139 #[.int .i64 n,.agg (MS 1 V M 0 0 0 0),.int .u8 c] w (RB w (.tuple #[.agg (MS 1 (D5 V M c) (EM M c) 0 0 0 0),.bool (EL V M c n)])):=by
 have CG:=fun w=>hgrow V M c n hv hM0 hM (by omega) c0 c1 w;simp only [hd] at CG;have CG:=h_ CG;clear hv;generalize D5 V M c=x at *;generalize EM M c=y at *;generalize EL V M c n=z at *;clear hd;go_enter func139,ntmps139;have hm:=Own.nil w
 go_wp2_with (first
  |(go_at_call 137;refine cB (CG.out _) hm ?_;clear hm;intro w1 hm)
  |(refine A8 rfl (ld2 0 hm rfl rfl rfl (ag rfl) rfl rfl) ?_)
  |(refine A8 rfl (ld2 1 hm rfl rfl rfl (ag rfl) rfl rfl) ?_)
  |(with_reducible first|(refine wla _ 2 hm ?_)|(refine ws _ 0 hm ?_;clear hm;intro w hm)|(refine ws _ 1 hm ?_;clear hm;intro w hm)|(refine wu _ 2 hm ?_;clear hm;intro w hm)|(refine wa _ hm Ja ?_;clear hm;intro w g hm)|(refine wa _ hm H9 ?_;clear hm;intro w g hm)|(refine wb hm ?_;clear hm;intro w g hm)))
 (refine b_r (Af rfl rfl (hm.row 1 rfl) (ag rfl)) rfl ?_)
 exact xg6
theorem Vz (n m:Int) (V M c:Int) (hv:DX V M=true) (hM0:0<=M) (hM:M<=4) (c0:0<=c) (c1:c<=255) (hV:V<=m) (hb:m<=65536) (hd:EZ M c=true) (w:World):Calls prog 140 #[.int .i64 n,.agg (MS 2 V M m 0 0 0),.int .u8 c] w (RB w (.tuple #[.agg (MS 3 0 0 m (D5 V M c) 0 0),.bool (EL V M c m)])):=by
 have CG:=fun w=>hgrow V M c m hv hM0 hM (by omega) c0 c1 w;simp only [hd] at CG;have CG:=h_ CG;clear hv;generalize D5 V M c=x at *;generalize EM M c=y at *;generalize EL V M c m=z at *;clear hd;go_enter func140,ntmps140;have hm:=Own.nil w
 go_wp2_with (first
  |(go_at_call 137;refine cB (CG.out _) hm ?_;clear hm;intro w1 hm)
  |(with_reducible first|(refine wl _ 0 hm ?_)|(refine wl _ 1 hm ?_)|(refine wl _ 2 hm ?_))
  |(refine A8 rfl (ld2 0 hm rfl rfl rfl (ag rfl) rfl rfl) ?_)
  |(refine A8 rfl (ld2 1 hm rfl rfl rfl (ag rfl) rfl rfl) ?_)
  |(with_reducible first|(refine wla _ 2 hm ?_)|(refine ws _ 0 hm ?_;clear hm;intro w hm)|(refine ws _ 1 hm ?_;clear hm;intro w hm)|(refine ws _ 2 hm ?_;clear hm;intro w hm)|(refine wu _ 2 hm ?_;clear hm;intro w hm)|(refine wa _ hm Ja ?_;clear hm;intro w g hm)|(refine wa _ hm H9 ?_;clear hm;intro w g hm)|(refine wb hm ?_;clear hm;intro w g hm)))
 (refine b_r (Af rfl rfl (hm.row 1 rfl) (ag rfl)) rfl ?_)
 exact xg6
theorem Z9 (n m:Int) (V M c:Int) (hv:DX V M=true) (hM0:0<=M) (hM:M<=4) (c0:0<=c) (c1:c<=255) (hV:V<=m) (hb:m<=65536) (hd:EZ M c=false) (w:World):Calls prog 140 #[.int .i64 n,.agg (MS 2 V M m 0 0 0),.int .u8 c] w (RB w (.tuple #[.agg (MS 2 (D5 V M c) (EM M c) m 0 0 0),.bool (EL V M c m)])):=by
 have CG:=fun w=>hgrow V M c m hv hM0 hM (by omega) c0 c1 w;simp only [hd] at CG;have CG:=h_ CG;clear hv;generalize D5 V M c=x at *;generalize EM M c=y at *;generalize EL V M c m=z at *;clear hd;go_enter func140,ntmps140;have hm:=Own.nil w
 go_wp2_with (first
  |(go_at_call 137;refine cB (CG.out _) hm ?_;clear hm;intro w1 hm)
  |(with_reducible refine wl _ 1 hm ?_)
  |(refine A8 rfl (ld2 0 hm rfl rfl rfl (ag rfl) rfl rfl) ?_)
  |(refine A8 rfl (ld2 1 hm rfl rfl rfl (ag rfl) rfl rfl) ?_)
  |(with_reducible first|(refine wla _ 2 hm ?_)|(refine ws _ 0 hm ?_;clear hm;intro w hm)|(refine ws _ 1 hm ?_;clear hm;intro w hm)|(refine wu _ 2 hm ?_;clear hm;intro w hm)|(refine wa _ hm Ja ?_;clear hm;intro w g hm)|(refine wa _ hm H9 ?_;clear hm;intro w g hm)|(refine wb hm ?_;clear hm;intro w g hm)))
 (refine b_r (Af rfl rfl (hm.row 1 rfl) (ag rfl)) rfl ?_)
 exact xg6
theorem or8 (s c:Int) (s0:0<=s) (s1:s < 16777216) (c0:0<=c) (c1:c<=255):bits .or .u32 (s * 256) c=s * 256+c :=
 bits_join .u32 32 (by decide) (fun n h0 h1=>IntWalk.u32_in n (by omega)) 8 (s * 256) c (by omega) (by omega) (by omega) c0 (by omega) (by omega)
theorem qW (n a m p s k c:Int) (a0:0<=a) (a1:a<=6) (k0:0<=k) (hk:k < 3) (s0:0<=s) (s1:s < 16777216) (c0:0<=c) (c1:c<=255) (w:World):Calls prog 141 #[.int .i64 n,.agg (MS a 0 0 m p s k),.int .u8 c] w (RB w (.tuple #[.agg (MS a 0 0 m p (s * 256+c) (k+1)),.bool true])):=by
 have q1:(k+1 == 4)=false:=by simp;omega
 exact xbh
theorem iq (n a m p s k c:Int) (a0:0<=a) (a1:a<=6) (k0:0<=k) (hk:k=3) (s0:0<=s) (s1:s < 16777216) (c0:0<=c) (c1:c<=255) (w:World):Calls prog 141 #[.int .i64 n,.agg (MS a 0 0 m p s k),.int .u8 c] w (RB w (.tuple #[.agg (MS (a+1) 0 0 m p (s * 256+c) (k+1)),.bool true])):=by
 subst hk;exact xbh
@[reducible] def HS (a V M n:Int):A_:=#[.int .i64 a,.int .i64 V,.int .i64 M,.int .i64 n]
theorem Jj (k:Int) (h0:0<=k) (h1:k<=2) (w:World):Calls prog 136 #[.agg (HS k 0 0 0)] w (RB w (.bool true)):=by
 have q0:k=0\/k=1\/k=2:=by omega
 have CW:Hid (∀ w,Calls prog 100 #[.int .i64 k,.int .i64 0,.int .i64 3] w fun x w'=>(x=.returned (.bool true))/\w'=w):=h_ fun w=>by have:=FX k 0 3 w;rwa [Eu h0 (by omega)] at this
 clear h0 h1;rcases q0 with rfl|rfl|rfl
 ·exact xho
 ·exact xho
 exact xho
theorem Tn (V M:Int) (hv:DX V M=true) (hM0:0<=M) (hM:M<=4) (hV:V<=65536) (w:World):Calls prog 136 #[.agg (HS 3 V M 0)] w (RB w (.bool true)):=by
 have CC:Hid (∀ w,Calls prog 181 #[.agg (VN V M),.int .i64 65536] w (RB w (.bool true))):=h_ fun w=>by have:=hcomes V M 65536 hM0 hM w;rwa [hv,decide_eq_true hV] at this
 clear hv;go_enter func136,ntmps136;have hm:=Own.nil w
 go_wp2_with (first
  |(go_at_call 181;refine cB (CC.out _) hm ?_;clear hm;intro w1 hm)
  |(with_reducible refine wl _ 0 hm ?_)
  |(refine A8 rfl (ld2 0 hm rfl rfl rfl (ag rfl) rfl rfl) ?_)
  |(with_reducible refine wb hm ?_;clear hm;intro w g hm))
 go_ret;exact xg6
theorem vU  (w:World):Calls prog 98 #[.agg (HS 0 0 0 0),.int .u8 87] w (RB w (.tuple #[.agg (HS 1 0 0 0),.bool false,.int .i64 0])):=by
 have CV:Hid (∀ w,Calls prog 136 #[.agg (HS 0 0 0 0)] w (RB w (.bool true))):=h_ fun w=>Jj 0 (by omega) (by omega) w;exact xhk
theorem vN (c:Int) (hc:c ≠ 87) (w:World):Calls prog 98 #[.agg (HS 0 0 0 0),.int .u8 c] w (RB w (.tuple #[.agg (HS 0 0 0 0),.bool false,.int .i64 240])):=by
 have CV:Hid (∀ w,Calls prog 136 #[.agg (HS 0 0 0 0)] w (RB w (.bool true))):=h_ fun w=>Jj 0 (by omega) (by omega) w;have q1:(c == ((({ data:=#[87,80,1] }:ByteArray)[0]'(by decide)).toNat:Int))=false:=(by simpa using hc:(c == 87)=false);exact xhj
theorem vS  (w:World):Calls prog 98 #[.agg (HS 1 0 0 0),.int .u8 80] w (RB w (.tuple #[.agg (HS 2 0 0 0),.bool false,.int .i64 0])):=by
 have CV:Hid (∀ w,Calls prog 136 #[.agg (HS 1 0 0 0)] w (RB w (.bool true))):=h_ fun w=>Jj 1 (by omega) (by omega) w;exact xhk
theorem vM (c:Int) (hc:c ≠ 80) (w:World):Calls prog 98 #[.agg (HS 1 0 0 0),.int .u8 c] w (RB w (.tuple #[.agg (HS 0 0 0 0),.bool false,.int .i64 240])):=by
 have CV:Hid (∀ w,Calls prog 136 #[.agg (HS 1 0 0 0)] w (RB w (.bool true))):=h_ fun w=>Jj 1 (by omega) (by omega) w;have q1:(c == ((({ data:=#[87,80,1] }:ByteArray)[1]'(by decide)).toNat:Int))=false:=(by simpa using hc:(c == 80)=false);exact xhj
theorem vP  (w:World):Calls prog 98 #[.agg (HS 2 0 0 0),.int .u8 1] w (RB w (.tuple #[.agg (HS 3 0 0 0),.bool false,.int .i64 0])):=by
 have CV:Hid (∀ w,Calls prog 136 #[.agg (HS 2 0 0 0)] w (RB w (.bool true))):=h_ fun w=>Jj 2 (by omega) (by omega) w;exact xhk
theorem vK (c:Int) (hc:c ≠ 1) (w:World):Calls prog 98 #[.agg (HS 2 0 0 0),.int .u8 c] w (RB w (.tuple #[.agg (HS 0 0 0 0),.bool false,.int .i64 241])):=by
 have CV:Hid (∀ w,Calls prog 136 #[.agg (HS 2 0 0 0)] w (RB w (.bool true))):=h_ fun w=>Jj 2 (by omega) (by omega) w;have q1:(c == ((({ data:=#[87,80,1] }:ByteArray)[2]'(by decide)).toNat:Int))=false:=(by simpa using hc:(c == 1)=false);exact xhj
theorem vO (V M c:Int) (hv:DX V M=true) (hM0:0<=M) (hM:M<=4) (hV:V<=65536) (c0:0<=c) (c1:c<=255) (ho:EL V M c 65536=false) (w:World):Calls prog 98 #[.agg (HS 3 V M 0),.int .u8 c] w (RB w (.tuple #[.agg (HS 0 0 0 0),.bool false,.int .i64 242])):=by
 have CV:Hid (∀ w,Calls prog 136 #[.agg (HS 3 V M 0)] w (RB w (.bool true))):=h_ fun w=>Tn V M hv hM0 hM hV w;have CG:=fun w=>hgrow V M c 65536 hv hM0 hM hV c0 c1 w;simp only [ho] at CG;have CG:=h_ CG;clear hv;generalize D5 V M c=x at *;generalize EM M c=y at *;clear ho;generalize EZ M c=z at *;go_enter func98,ntmps98;have hm:=Own.nil w
 go_wp2_with (first
  |(go_at_call 136;refine cB (CV.out _) hm ?_;clear hm;intro w1 hm)
  |(go_at_call 137;refine cB (CG.out _) hm ?_;clear hm;intro w1 hm)
  |(with_reducible refine wl _ 1 hm ?_)
  |(refine A8 rfl (ld2 1 hm rfl rfl rfl (ag rfl) rfl rfl) ?_)
  |(with_reducible first|(refine wla _ 1 hm ?_)|(refine ws _ 0 hm ?_;clear hm;intro w hm)|(refine ws _ 1 hm ?_;clear hm;intro w hm)|(refine wa _ hm Ja ?_;clear hm;intro w g hm)|(refine wa _ hm NK ?_;clear hm;intro w g hm)|(refine wb hm ?_;clear hm;intro w g hm)))
 (refine b_r (Ae rfl rfl (hm.row 1 rfl) (ag rfl)) rfl ?_)
 exact xg6
theorem nD (V M c:Int) (hv:DX V M=true) (hM0:0<=M) (hM:M<=4) (hV:V<=65536) (c0:0<=c) (c1:c<=255) (ho:EL V M c 65536=true) (hd:EZ M c=true) (w:World):Calls prog 98 #[.agg (HS 3 V M 0),.int .u8 c] w (RB w (.tuple #[.agg (HS 4 0 0 (D5 V M c)),.bool true,.int .i64 0])):=by
 have CV:Hid (∀ w,Calls prog 136 #[.agg (HS 3 V M 0)] w (RB w (.bool true))):=h_ fun w=>Tn V M hv hM0 hM hV w;have CG:=fun w=>hgrow V M c 65536 hv hM0 hM hV c0 c1 w;simp only [ho,hd] at CG;have CG:=h_ CG;clear hv;generalize D5 V M c=x at *;generalize EM M c=y at *;clear ho;clear hd;go_enter func98,ntmps98;have hm:=Own.nil w
 go_wp2_with (first
  |(go_at_call 136;refine cB (CV.out _) hm ?_;clear hm;intro w1 hm)
  |(go_at_call 137;refine cB (CG.out _) hm ?_;clear hm;intro w1 hm)
  |(with_reducible first|(refine wl _ 0 hm ?_)|(refine wl _ 1 hm ?_))
  |(refine A8 rfl (ld2 1 hm rfl rfl rfl (ag rfl) rfl rfl) ?_)
  |(with_reducible first|(refine wla _ 1 hm ?_)|(refine ws _ 0 hm ?_;clear hm;intro w hm)|(refine ws _ 1 hm ?_;clear hm;intro w hm)|(refine wa _ hm Ja ?_;clear hm;intro w g hm)|(refine wa _ hm NK ?_;clear hm;intro w g hm)|(refine wb hm ?_;clear hm;intro w g hm)))
 (refine b_r (Ae rfl rfl (hm.row 1 rfl) (ag rfl)) rfl ?_)
 exact xg6
theorem vW (V M c:Int) (hv:DX V M=true) (hM0:0<=M) (hM:M<=4) (hV:V<=65536) (c0:0<=c) (c1:c<=255) (ho:EL V M c 65536=true) (hd:EZ M c=false) (w:World):Calls prog 98 #[.agg (HS 3 V M 0),.int .u8 c] w (RB w (.tuple #[.agg (HS 3 (D5 V M c) (EM M c) 0),.bool false,.int .i64 0])):=by
 have CV:Hid (∀ w,Calls prog 136 #[.agg (HS 3 V M 0)] w (RB w (.bool true))):=h_ fun w=>Tn V M hv hM0 hM hV w;have CG:=fun w=>hgrow V M c 65536 hv hM0 hM hV c0 c1 w;simp only [ho,hd] at CG;have CG:=h_ CG;clear hv;generalize D5 V M c=x at *;generalize EM M c=y at *;clear ho;clear hd;go_enter func98,ntmps98;have hm:=Own.nil w
 go_wp2_with (first
  |(go_at_call 136;refine cB (CV.out _) hm ?_;clear hm;intro w1 hm)
  |(go_at_call 137;refine cB (CG.out _) hm ?_;clear hm;intro w1 hm)
  |(with_reducible refine wl _ 1 hm ?_)
  |(refine A8 rfl (ld2 0 hm rfl rfl rfl (ag rfl) rfl rfl) ?_)
  |(refine A8 rfl (ld2 1 hm rfl rfl rfl (ag rfl) rfl rfl) ?_)
  |(with_reducible first|(refine wla _ 1 hm ?_)|(refine ws _ 0 hm ?_;clear hm;intro w hm)|(refine ws _ 1 hm ?_;clear hm;intro w hm)|(refine wa _ hm Ja ?_;clear hm;intro w g hm)|(refine wa _ hm NK ?_;clear hm;intro w g hm)|(refine wb hm ?_;clear hm;intro w g hm)))
 (refine b_r (Ae rfl rfl (hm.row 1 rfl) (ag rfl)) rfl ?_)
 exact xg6
variable {a:Act} {cs ds:A_} {b c n s:Int} {Q:L_} {o:Oper} {x y:Operand} {t' ty:TypeId} {u:Value} {w:World}
section
variable {P M S:L_} {off i:Nat} {k:IntKind} {l m:I_}
theorem gr2 {v:Value} (h:P.length=off) (hv:M[i]?=some v):(P++M).toArray[off+i]?=some v:=by
 have e:=UL (S:=[]) h hv;rwa [List.append_nil] at e
theorem pr2 (h:P.length=off) (hi:i < M.length) (v:Value):(P++M).toArray.setIfInBounds (off+i) v=(P++M.set i v).toArray:=by
 have e:=Y1 (S:=[]) h hi v;rwa [List.append_nil,List.append_nil] at e
theorem gr1 (h:i < l.length):(vs k l++S).toArray[i]?=some (.int k (gi l i)):=by
 have e:=UL (P:=[]) (off:=0) (S:=S) rfl (Fg k l i h);rwa [Nat.zero_add] at e
theorem pr1 (h:i < l.length) (x:Int):(vs k l++S).toArray.setIfInBounds i (.int k x)=(vs k (l.set i x)++S).toArray:=by
 have e:=Y1 (P:=[]) (off:=0) (S:=S) rfl (show i < (vs k l).length by rw [Ai];omega) (.int k x);rwa [aK,Nat.zero_add] at e
theorem sr1:(vs k l++S).toArray.extract 0 (0+(J k l).size)=J k l:=by
 rw [Df];exact Xl (P:=[]) (S:=S) (off:=0) rfl (Ai ..)
theorem lr1 (h:l.length=m.length):splice (vs k l++S).toArray 0 (J k m)=(vs k m++S).toArray:=by
 have e:=bn (P:=[]) (M:=vs k l) (M2:=vs k m) (S:=S) (off:=0) rfl (by rw [Ai,Ai,h]);exact e
theorem or1 (h:S.all (fun v=>v.oneCell')=true):∀ v ∈ (vs k l++S).toArray,v.oneCell'=true:=fun v hv =>
 (List.mem_append.1 (by simpa using hv)).elim (Ic k _ v) (List.all_eq_true.1 h v)
end
def TS (l:I_) (s:Int) (b:Int) (n:Int) (d:Int):A_:=(vs .u8 l++([Value.int .i64 s,.int .i64 b,.int .i64 n,.int .i64 d])).toArray
theorem Dy {l:I_} {d:Int} (hl:l.length=258):(TS l s b n d).size=262:=by simp [TS,Ai,hl]
theorem Bq {l:I_} {d:Int} (hl:l.length=258):Aq prog 141 (TS l s b n d).size:=by rw [Dy hl];exact ag (by decide)
theorem Di (l:I_) (s:Int) (b:Int) (n:Int) (d:Int):∀ v ∈ TS l s b n d,v.oneCell'=true:=or1 rfl
theorem A0X {l:I_} {d:Int}  (hl:l.length=258) (i:Nat) (hi:i < 258):(TS l s b n d)[i]?=some (.int .u8 (gi l i)):=gr1 (by omega)
theorem aj {l:I_} {d:Int}  (hl:l.length=258) (i:Nat) (hi:i < 258) (x:Int):(TS l s b n d).setIfInBounds (i) (.int .u8 x)=TS (l.set i x) s b n d:=pr1 (by omega) x
theorem Jv {l:I_} {d:Int}  (hl:l.length=258):(TS l s b n d).extract 0 (0+(J .u8 l).size)=J .u8 l:=sr1
theorem L9 {l:I_} {d:Int} (hl:l.length=258):0+(J .u8 l).size<=(TS l s b n d).size:=by rw [Dy hl,Df,hl];omega
theorem CJ {l:I_} {d:Int} (hl:l.length=258):(TS l s b n d)[258]?=some (Value.int .i64 s):=gr2 (off:=258) (i:=0) (by simp [Ai,hl]) rfl
theorem ah {l:I_} {d:Int} (hl:l.length=258) (x:Int):(TS l s b n d).setIfInBounds 258 (Value.int .i64 x)=TS l x b n d:=pr2 (off:=258) (i:=0) (by simp [Ai,hl]) (n_l rfl) _
theorem kD {l:I_} {d:Int} (hl:l.length=258):258 < (TS l s b n d).size:=by rw [Dy hl];omega
theorem Cb {l:I_} {d:Int} (hl:l.length=258):(TS l s b n d)[259]?=some (Value.int .i64 b):=gr2 (off:=258) (i:=1) (by simp [Ai,hl]) rfl
theorem GY {l:I_} {d:Int} (hl:l.length=258) (x:Int):(TS l s b n d).setIfInBounds 259 (Value.int .i64 x)=TS l s x n d:=pr2 (off:=258) (i:=1) (by simp [Ai,hl]) (n_l rfl) _
theorem Es {l:I_} {d:Int} (hl:l.length=258):259 < (TS l s b n d).size:=by rw [Dy hl];omega
theorem CQ {l:I_} {d:Int} (hl:l.length=258):(TS l s b n d)[260]?=some (Value.int .i64 n):=gr2 (off:=258) (i:=2) (by simp [Ai,hl]) rfl
theorem IE {l:I_} {d:Int} (hl:l.length=258) (x:Int):(TS l s b n d).setIfInBounds 260 (Value.int .i64 x)=TS l s b x d:=pr2 (off:=258) (i:=2) (by simp [Ai,hl]) (n_l rfl) _
theorem JX {l:I_} {d:Int} (hl:l.length=258):260 < (TS l s b n d).size:=by rw [Dy hl];omega
theorem E8 {l:I_} {d:Int} (hl:l.length=258):(TS l s b n d)[261]?=some (Value.int .i64 d):=gr2 (off:=258) (i:=3) (by simp [Ai,hl]) rfl
theorem GX {l:I_} {d:Int} (hl:l.length=258) (x:Int):(TS l s b n d).setIfInBounds 261 (Value.int .i64 x)=TS l s b n x:=pr2 (off:=258) (i:=3) (by simp [Ai,hl]) (n_l rfl) _
theorem Dz {l:I_} {d:Int} (hl:l.length=258):261 < (TS l s b n d).size:=by rw [Dy hl];omega
def CS (l:I_) (c:Int) (b:Int):A_:=(vs .u8 l++([Value.int .i64 c,.int .i64 b])).toArray
theorem CU {l:I_} (hl:l.length=258):(CS l c b).size=260:=by simp [CS,Ai,hl]
theorem DT {l:I_} (hl:l.length=258):Aq prog 143 (CS l c b).size:=by rw [CU hl];exact ag (by decide)
theorem Eb (l:I_) (c:Int) (b:Int):∀ v ∈ CS l c b,v.oneCell'=true:=or1 rfl
theorem II {l:I_}  (hl:l.length=258):(CS l c b).extract 0 (0+(J .u8 l).size)=J .u8 l:=sr1
theorem IJ {l:I_} (hl:l.length=258):0+(J .u8 l).size<=(CS l c b).size:=by rw [CU hl,Df,hl];omega
theorem aA {l:I_}  (hl:l.length=258) {m:I_} (hm:m.length=258):splice (CS l c b) 0 (J .u8 m)=CS m c b:=lr1 (by omega)
theorem LZ {l:I_} (hl:l.length=258):(CS l c b)[258]?=some (Value.int .i64 c):=gr2 (off:=258) (i:=0) (by simp [Ai,hl]) rfl
theorem yU {l:I_} (hl:l.length=258) (x:Int):(CS l c b).setIfInBounds 258 (Value.int .i64 x)=CS l x b:=pr2 (off:=258) (i:=0) (by simp [Ai,hl]) (n_l rfl) _
theorem A13 {l:I_} (hl:l.length=258):258 < (CS l c b).size:=by rw [CU hl];omega
theorem Mc {l:I_} (hl:l.length=258):(CS l c b)[259]?=some (Value.int .i64 b):=gr2 (off:=258) (i:=1) (by simp [Ai,hl]) rfl
theorem yV {l:I_} (hl:l.length=258) (x:Int):(CS l c b).setIfInBounds 259 (Value.int .i64 x)=CS l c x:=pr2 (off:=258) (i:=1) (by simp [Ai,hl]) (n_l rfl) _
theorem A15 {l:I_} (hl:l.length=258):259 < (CS l c b).size:=by rw [CU hl];omega
theorem Jz (w:World):(zeroValue 141).run prog w=.ok (.agg (TS Hf 0 0 0 0)) w:=by kernel_rfl
theorem QA (w:World):(zeroValue 143).run prog w=.ok (.agg (CS Hf 0 0)) w:=by kernel_rfl
theorem part3 {P:Program} {M S:L_} {off n:Nat} (hQ:Q.length=off) (hn:M.length=n) (ht:Aq P ty n):(part ty (Q++(M++S)).toArray off).run P w=.ok (.agg M.toArray) w:=by
 have he:=Xl (S:=S) hQ hn;cases hq:P.info? ty with
|none=>have:=ht.size;simp [hq] at this
|some i =>
  have hs:i.size=n:=by have:=ht.size;simpa [hq] using this
  simp only [part,ht.agg,sizeOf,typeInfo,s_b,run_program,hq,r_o,s_p,hs,if_true];rw [he]
theorem partc {P:Program} {off:Nat} {v:Value} (ht:ET P ty) (hv:cs[off]?=some v):(part ty cs off).run P w=.ok v w:=by
 simp [part,ht.1,hv]
theorem eqf {P:Program} {d:Nat} {f:Field} {fs:List Field} {v:Value} (hn:f.name ≠ "_") (hu:(part f.type cs f.offset).run P w=.ok u w) (hv:(part f.type ds f.offset).run P w=.ok v w)
  {a b:Bool} (ha:(Op.equalIn (d+2) f.type u v).run P w=.ok a w) (hr:(Op.eqFields (d+2) cs ds fs).run P w=.ok b w):(Op.eqFields (d+2) cs ds (f::fs)).run P w=.ok (a && b) w:=by
 simp only [Op.eqFields,ne_eq,hn,not_false_eq_true,if_true,s_b,hu,hv,r_o,ha];cases a<;>simp [hr]
theorem eq141 {l:I_} (s b n d:Int) (w:World) (hl:l.length=258):(Op.equalIn 10000 141 (.agg (TS l s b n d)) (.agg (TS l s b n d))).run prog w=.ok true w:=by
 obtain ⟨i5,hi5⟩:=info5;have hf:(prog.fieldsOf 141).toList.map (fun f=>(f.name,f.type,f.offset))=[("Lengths",139,0),("Symbol",3,258),("Bits",3,259),("Now",3,260),("Way",3,261)]:=by kernel_rfl
 rw [run_equalIn_struct w 9999 141 _ _ (by kernel_rfl) (by kernel_rfl)];generalize (prog.fieldsOf 141).toList=fs at hf ⊢;rcases fs with _|⟨f0,_|⟨f1,_|⟨f2,_|⟨f3,_|⟨f4,_|⟨z,t⟩⟩⟩⟩⟩⟩
 ·simp at hf
 ·simp at hf
 ·simp at hf
 ·simp at hf
 ·simp at hf
 ·simp only [List.map_cons,List.map_nil,List.cons.injEq,Prod.mk.injEq,and_true] at hf;obtain ⟨⟨a1,a2,a3⟩,⟨b1,b2,b3⟩,⟨c1,c2,c3⟩,⟨d1,d2,d3⟩,e1,e2,e3⟩:=hf;rw [show (9999:Nat)=9997+2 from rfl];have h5:(Op.eqFields (9997+2) (TS l s b n d) (TS l s b n d) []).run prog w=.ok true w:=by simp [Op.eqFields]
  have cell:∀ (f:Field) (o:Nat) (x:Int),f.type=3->f.offset=o->(TS l s b n d)[o]?=some (.int .i64 x)->(part f.type (TS l s b n d) f.offset).run prog w=.ok (.int .i64 x) w:=fun f o x h1 h2 h3=>by rw [h1,h2];exact partc BG h3
  have ee:∀ (f:Field) (x:Int),f.type=3->(Op.equalIn (9997+2) f.type (.int .i64 x) (.int .i64 x)).run prog w=.ok true w:=fun f x h1=>by rw [h1,run_equalIn_int w _ 3 .i64 .i64 x x underlying3];simp
  have h4:=eqf (f:=f4) (by rw [e1];decide) (cell f4 _ _ e2 e3 (E8 hl)) (cell f4 _ _ e2 e3 (E8 hl)) (ee f4 d e2) h5;have h3:=eqf (f:=f3) (by rw [d1];decide) (cell f3 _ _ d2 d3 (CQ hl)) (cell f3 _ _ d2 d3 (CQ hl)) (ee f3 n d2) h4;have h2:=eqf (f:=f2) (by rw [c1];decide) (cell f2 _ _ c2 c3 (Cb hl)) (cell f2 _ _ c2 c3 (Cb hl)) (ee f2 b c2) h3;have h1:=eqf (f:=f1) (by rw [b1];decide) (cell f1 _ _ b2 b3 (CJ hl)) (cell f1 _ _ b2 b3 (CJ hl)) (ee f1 s b2) h2
  have hp:(part f0.type (TS l s b n d) f0.offset).run prog w=.ok (.agg (J .u8 l)) w:=by
   rw [a2,a3];exact part3 (Q:=[]) (M:=vs .u8 l) rfl (by rw [Ai,hl]) xW
  have hq:(Op.equalIn (9997+2) f0.type (.agg (J .u8 l)) (.agg (J .u8 l))).run prog w=.ok true w:=by
   have h:=Gj (P:=prog) (w:=w) 9997 (k:=.u8) underlying139 underlying5 hi5 (by kernel_rfl) l l hl hl;rw [a2];simpa [J] using h
  have h0:=eqf (f:=f0) (by rw [a1];decide) hp hp hq h1;rw [h0];rfl
 ·simp at hf
theorem dZ (ho:o.op=.binOp .eql 141 x y t') {l:I_} {d:Int} (hx:a.eval x=.agg (TS l s b n d)) (hy:a.eval y=.agg (TS l s b n d)) (hl:l.length=258) :
  (execOp a.eval o).run prog w=.ok (.value (.bool true)) w:=by
 unfold execOp;simp only [ho,hx,hy,s_b,run_eqGuard_agg w .eql 141 x y _ _ (by kernel_rfl:prog.eqGuardType prog.depth 141=false),r_o,run_eql_struct,eq141 s b n d w hl,s_p]
theorem Dq {parts:Array (Nat × Operand)} (ho:o.op=.build ty parts) (hb:prog.built ty (parts.map fun (i,x)=>(i,a.eval x)).toList=some cs):(execOp a.eval o).run prog w=.ok (.value (.agg cs)) w:=by
 unfold execOp;simp only [ho,s_b,run_build w ty _ cs hb,r_o,s_p]
theorem UQ (ho:o.op=.build 141 #[(2,x),(3,y)]) (hx:a.eval x=.int .i64 b) (hy:a.eval y=.int .i64 n):(execOp a.eval o).run prog w=.ok (.value (.agg (TS Hf 0 b n 0))) w :=
 Dq ho (by simp only [l_y,List.map_cons,List.map_nil,hx,hy];kernel_rfl)
variable {cs ds hs ms pt x:A_}
structure PRz (pt hs ms ts cs ds er:A_):Prop where
 pt:pt.size=1
 hs:hs.size=4
 ms:ms.size=7
 ts:ts.size=262
 cs:cs.size=260
 ds:ds.size=260
 er:er.size=1
section
variable {A B:A_} {P S:L_} {m m2:A_} {off i:Nat}
theorem ar3 {v:Value} (e:A=(P++(m.toList++S)).toArray) (hP:P.length=off) (hv:m[i]?=some v):A[off+i]?=some v:=by
 rw [e];exact UL hP (by rw [a_g];exact hv)
theorem ux3 (e:A=(P++(m.toList++S)).toArray) (hP:P.length=off):A.extract off (off+m.size)=m:=by
 rw [e];have q:=Xl (M:=m.toList) (S:=S) (n:=m.size) hP (by simp);rw [q,Array.toArray_toList]
theorem vx3 (e:A=(P++(m.toList++S)).toArray) (e2:B=(P++(m2.toList++S)).toArray) (hP:P.length=off) (hm:m.size=m2.size):splice A off m2=B:=by
 rw [e,e2];have q:=bn (M:=m.toList) (M2:=m2.toList) (S:=S) hP (by simpa using hm);rwa [Array.toArray_toList] at q
theorem wx3 {v:Value} (e:A=(P++(m.toList++S)).toArray) (e2:B=(P++((m.setIfInBounds i v).toList++S)).toArray) (hP:P.length=off) (hi:i < m.size):A.setIfInBounds (off+i) v=B:=by
 rw [e,e2];have q:=Y1 (M:=m.toList) (S:=S) hP (show i < m.toList.length by simpa using hi) v;rw [q];simp
end
def PR (pt hs ms ts cs ds er:A_):A_:=(pt.toList++(hs.toList++(ms.toList++(ts.toList++(cs.toList++(ds.toList++(er.toList))))))).toArray
theorem Bg {ts er:A_} (h:PRz pt hs ms ts cs ds er):(PR pt hs ms ts cs ds er).size=795:=by simp [PR,h.pt,h.hs,h.ms,h.ts,h.cs,h.ds,h.er]
theorem Um {ts er:A_}:PR pt hs ms ts cs ds er=([]++(pt.toList++(hs.toList++(ms.toList++(ts.toList++(cs.toList++(ds.toList++(er.toList)))))))).toArray:=by simp [PR,l_a]
theorem PRz.lpt {ts er:A_} (h:PRz pt hs ms ts cs ds er):([]:L_).length=0:=by simp
theorem FD {ts er:A_} (h:PRz pt hs ms ts cs ds er):(PR pt hs ms ts cs ds er).extract 0 (0+pt.size)=pt:=ux3 Um h.lpt
theorem FH {ts er:A_} (h:PRz pt hs ms ts cs ds er):0+pt.size<=(PR pt hs ms ts cs ds er).size:=by rw [Bg h,h.pt];omega
theorem Eh {ts er:A_} (h:PRz pt hs ms ts cs ds er) (hx:x.size=1):splice (PR pt hs ms ts cs ds er) 0 x=PR x hs ms ts cs ds er:=vx3 Um Um h.lpt (by rw [hx,h.pt])
theorem PRz.pt_ {ts er:A_} (h:PRz pt hs ms ts cs ds er) (hx:x.size=1):PRz x hs ms ts cs ds er:=⟨hx,h.hs,h.ms,h.ts,h.cs,h.ds,h.er⟩
theorem OQ {ts er:A_}:PR pt hs ms ts cs ds er=((pt.toList)++(hs.toList++(ms.toList++(ts.toList++(cs.toList++(ds.toList++(er.toList))))))).toArray:=by simp [PR,l_a]
theorem PRz.lhs {ts er:A_} (h:PRz pt hs ms ts cs ds er):((pt.toList):L_).length=1:=by simp [h.pt]
theorem Q5 {ts er:A_} (h:PRz pt hs ms ts cs ds er):(PR pt hs ms ts cs ds er).extract 1 (1+hs.size)=hs:=ux3 OQ h.lhs
theorem Qa {ts er:A_} (h:PRz pt hs ms ts cs ds er):1+hs.size<=(PR pt hs ms ts cs ds er).size:=by rw [Bg h,h.hs];omega
theorem Wp {ts er:A_} (h:PRz pt hs ms ts cs ds er) (hx:x.size=4):splice (PR pt hs ms ts cs ds er) 1 x=PR pt x ms ts cs ds er:=vx3 OQ OQ h.lhs (by rw [hx,h.hs])
theorem OM {ts er:A_} (h:PRz pt hs ms ts cs ds er) {i:Nat} {v:Value} (hv:hs[i]?=some v):(PR pt hs ms ts cs ds er)[1+i]?=some v:=ar3 OQ h.lhs hv
theorem PRz.hs_ {ts er:A_} (h:PRz pt hs ms ts cs ds er) (hx:x.size=4):PRz pt x ms ts cs ds er:=⟨h.pt,hx,h.ms,h.ts,h.cs,h.ds,h.er⟩
theorem OO {ts er:A_}:PR pt hs ms ts cs ds er=((pt.toList++hs.toList)++(ms.toList++(ts.toList++(cs.toList++(ds.toList++(er.toList)))))).toArray:=by simp [PR,l_a]
theorem PRz.lms {ts er:A_} (h:PRz pt hs ms ts cs ds er):((pt.toList++hs.toList):L_).length=5:=by simp [h.pt,h.hs]
theorem LQ {ts er:A_} (h:PRz pt hs ms ts cs ds er):(PR pt hs ms ts cs ds er).extract 5 (5+ms.size)=ms:=ux3 OO h.lms
theorem LW {ts er:A_} (h:PRz pt hs ms ts cs ds er):5+ms.size<=(PR pt hs ms ts cs ds er).size:=by rw [Bg h,h.ms];omega
theorem Gu {ts er:A_} (h:PRz pt hs ms ts cs ds er) (hx:x.size=7):splice (PR pt hs ms ts cs ds er) 5 x=PR pt hs x ts cs ds er:=vx3 OO OO h.lms (by rw [hx,h.ms])
theorem yJ {ts er:A_} (h:PRz pt hs ms ts cs ds er) {i:Nat} {v:Value} (hv:ms[i]?=some v):(PR pt hs ms ts cs ds er)[5+i]?=some v:=ar3 OO h.lms hv
theorem PRz.ms_ {ts er:A_} (h:PRz pt hs ms ts cs ds er) (hx:x.size=7):PRz pt hs x ts cs ds er:=⟨h.pt,h.hs,hx,h.ts,h.cs,h.ds,h.er⟩
theorem Ul {ts er:A_}:PR pt hs ms ts cs ds er=((pt.toList++hs.toList++ms.toList)++(ts.toList++(cs.toList++(ds.toList++(er.toList))))).toArray:=by simp [PR,l_a]
theorem PRz.lts {ts er:A_} (h:PRz pt hs ms ts cs ds er):((pt.toList++hs.toList++ms.toList):L_).length=12:=by simp [h.pt,h.hs,h.ms]
theorem PZ {ts er:A_} (h:PRz pt hs ms ts cs ds er):(PR pt hs ms ts cs ds er).extract 12 (12+ts.size)=ts:=ux3 Ul h.lts
theorem Q9 {ts er:A_} (h:PRz pt hs ms ts cs ds er):12+ts.size<=(PR pt hs ms ts cs ds er).size:=by rw [Bg h,h.ts];omega
theorem LV {ts er:A_} (h:PRz pt hs ms ts cs ds er) (hx:x.size=262):splice (PR pt hs ms ts cs ds er) 12 x=PR pt hs ms x cs ds er:=vx3 Ul Ul h.lts (by rw [hx,h.ts])
theorem PRz.ts_ {ts er:A_} (h:PRz pt hs ms ts cs ds er) (hx:x.size=262):PRz pt hs ms x cs ds er:=⟨h.pt,h.hs,h.ms,hx,h.cs,h.ds,h.er⟩
theorem Ur {ts er:A_}:PR pt hs ms ts cs ds er=((pt.toList++hs.toList++ms.toList++ts.toList)++(cs.toList++(ds.toList++(er.toList)))).toArray:=by simp [PR,l_a]
theorem PRz.lcs {ts er:A_} (h:PRz pt hs ms ts cs ds er):((pt.toList++hs.toList++ms.toList++ts.toList):L_).length=274:=by simp [h.pt,h.hs,h.ms,h.ts]
theorem LU {ts er:A_} (h:PRz pt hs ms ts cs ds er):(PR pt hs ms ts cs ds er).extract 274 (274+cs.size)=cs:=ux3 Ur h.lcs
theorem LX {ts er:A_} (h:PRz pt hs ms ts cs ds er):274+cs.size<=(PR pt hs ms ts cs ds er).size:=by rw [Bg h,h.cs];omega
theorem Jy {ts er:A_} (h:PRz pt hs ms ts cs ds er) (hx:x.size=260):splice (PR pt hs ms ts cs ds er) 274 x=PR pt hs ms ts x ds er:=vx3 Ur Ur h.lcs (by rw [hx,h.cs])
theorem PRz.cs_ {ts er:A_} (h:PRz pt hs ms ts cs ds er) (hx:x.size=260):PRz pt hs ms ts x ds er:=⟨h.pt,h.hs,h.ms,h.ts,hx,h.ds,h.er⟩
theorem Uo {ts er:A_}:PR pt hs ms ts cs ds er=((pt.toList++hs.toList++ms.toList++ts.toList++cs.toList)++(ds.toList++(er.toList))).toArray:=by simp [PR,l_a]
theorem PRz.lds {ts er:A_} (h:PRz pt hs ms ts cs ds er):((pt.toList++hs.toList++ms.toList++ts.toList++cs.toList):L_).length=534:=by simp [h.pt,h.hs,h.ms,h.ts,h.cs]
theorem Q7 {ts er:A_} (h:PRz pt hs ms ts cs ds er):(PR pt hs ms ts cs ds er).extract 534 (534+ds.size)=ds:=ux3 Uo h.lds
theorem Qb {ts er:A_} (h:PRz pt hs ms ts cs ds er):534+ds.size<=(PR pt hs ms ts cs ds er).size:=by rw [Bg h,h.ds];omega
theorem Q8 {ts er:A_} (h:PRz pt hs ms ts cs ds er) (hx:x.size=260):splice (PR pt hs ms ts cs ds er) 534 x=PR pt hs ms ts cs x er:=vx3 Uo Uo h.lds (by rw [hx,h.ds])
theorem PRz.ds_ {ts er:A_} (h:PRz pt hs ms ts cs ds er) (hx:x.size=260):PRz pt hs ms ts cs x er:=⟨h.pt,h.hs,h.ms,h.ts,h.cs,hx,h.er⟩
theorem Un {ts er:A_}:PR pt hs ms ts cs ds er=((pt.toList++hs.toList++ms.toList++ts.toList++cs.toList++ds.toList)++(er.toList++[])).toArray:=by simp [PR,l_a]
theorem PRz.ler {ts er:A_} (h:PRz pt hs ms ts cs ds er):((pt.toList++hs.toList++ms.toList++ts.toList++cs.toList++ds.toList):L_).length=794:=by simp [h.pt,h.hs,h.ms,h.ts,h.cs,h.ds]
theorem yK {ts er:A_} (h:PRz pt hs ms ts cs ds er) {i:Nat} {v:Value} (hv:er[i]?=some v):(PR pt hs ms ts cs ds er)[794+i]?=some v:=ar3 Un h.ler hv
theorem qc {ts er:A_} (h:PRz pt hs ms ts cs ds er) {i:Nat} (hi:i < 1) (v:Value):(PR pt hs ms ts cs ds er).setIfInBounds (794+i) v=PR pt hs ms ts cs ds (er.setIfInBounds i v):=wx3 Un Un h.ler (by rw [h.er];exact hi)
variable {a:Act} {e k:Int} {o:Oper} {x y:Operand} {t:Value} {w:World}
def EVT (k N M P S:Int) (t:Value) (e:Int):A_:=#[.int .u8 k,.int .i64 N,.int .i64 M,.int .i64 P,.int .u32 S,t,.int .i64 e]
def PT (k:Int):A_:=#[.int .i64 k]
def ER (e:Int):A_:=#[.int .i64 e]
theorem Ku (w:World):(zeroValue 134).run prog w=.ok (.agg (PT 0)) w:=by kernel_rfl
theorem BX (w:World):(zeroValue 76).run prog w=.ok (.agg (EVT 0 0 0 0 0 (.slice none 0 0) 0)) w:=by kernel_rfl
theorem Cm (k:Int):Aq prog 134 (PT k).size:=ag rfl
theorem Dw (k N M P S:Int) (t:Value) (e:Int):Aq prog 76 (EVT k N M P S t e).size:=ag rfl
theorem Qy (a b:Int):(PT a).size=(PT b).size:=rfl
theorem yS (k N M P S:Int) (t:Value) (e k' N' M' P' S':Int) (t':Value) (e':Int):(EVT k N M P S t e).size=(EVT k' N' M' P' S' t' e').size:=rfl
theorem Ei (k:Int):∀ v ∈ PT k,v.oneCell'=true:=Dp (cs:=[.int .i64 k]) rfl
theorem Ak (k N M P S:Int) (h:t.oneCell'=true) (e:Int):∀ v ∈ EVT k N M P S t e,v.oneCell'=true:=Dp (cs:=[.int .u8 k,.int .i64 N,.int .i64 M,.int .i64 P,.int .u32 S,t,.int .i64 e]) (by simp [h];exact ⟨rfl,rfl,rfl,rfl,rfl,rfl⟩)
theorem D9 (ho:o.op=.build 134 #[(0,x)]) (hx:a.eval x=.int .i64 k):(execOp a.eval o).run prog w=.ok (.value (.agg (PT k))) w :=
 Dq ho (by simp only [l_y,List.map_cons,List.map_nil,hx];kernel_rfl)
theorem MN (ho:o.op=.build 76 #[(0,x),(4,y)]) (hx:a.eval x=.int .u8 k) (hy:a.eval y=.int .i64 e):(execOp a.eval o).run prog w=.ok (.value (.agg (EVT k 0 0 0 0 (.slice none 0 0) e))) w :=
 Dq ho (by simp only [l_y,List.map_cons,List.map_nil,hx,hy];kernel_rfl)
theorem A4r (ho:o.op=.build 76 #[(0,x)]) (hx:a.eval x=.int .u8 k):(execOp a.eval o).run prog w=.ok (.value (.agg (EVT k 0 0 0 0 (.slice none 0 0) 0))) w :=
 Dq ho (by simp only [l_y,List.map_cons,List.map_nil,hx];kernel_rfl)
theorem iG  (w:World):Calls prog 77 #[] w (RB w (.agg (PT 1))):=by
 go_enter func77,ntmps77;exact xak
theorem WW  (w:World):Calls prog 79 #[] w (RB w (.agg (PT 2))):=by
 go_enter func79,ntmps79;exact xak
theorem WV  (w:World):Calls prog 81 #[] w (RB w (.agg (PT 3))):=by
 go_enter func81,ntmps81;exact xak
theorem iF  (w:World):Calls prog 83 #[] w (RB w (.agg (PT 4))):=by
 go_enter func83,ntmps83;exact xak
theorem iE  (w:World):Calls prog 85 #[] w (RB w (.agg (PT 5))):=by
 go_enter func85,ntmps85;exact xak
theorem WU  (w:World):Calls prog 87 #[] w (RB w (.agg (PT 6))):=by
 go_enter func87,ntmps87;exact xak
theorem iD  (w:World):Calls prog 89 #[] w (RB w (.agg (PT 7))):=by
 go_enter func89,ntmps89;exact xak
theorem iC  (w:World):Calls prog 91 #[] w (RB w (.agg (PT 8))):=by
 go_enter func91,ntmps91;exact xak
theorem A1Q {er:A_} {v:Value} (h:er.size=1):er.setIfInBounds 0 v=#[v]:=by
 apply Array.ext
 ·simp [h]
 ·intro i h1 h2;have:i=0:=by simp at h2;omega
  subst this;simp
theorem Gf (gp:Nat) (pt hs ms ts cs ds er:A_) (e:Int) (w0 w:World) (rs:Rws) (ss:List Sl) (hm:Own w0 w ((gp,PR pt hs ms ts cs ds er)::rs) ss) (hz:PRz pt hs ms ts cs ds er):Calls prog 125 #[.pointer (some ⟨gp,0,none⟩),.int .i64 e] w fun x w'=>(x=.returned (.tuple #[.agg (EVT 8 0 0 0 0 (.slice none 0 0) e),.bool true]))/\Own w0 w' ((gp,PR (PT 8) hs ms ts cs ds (ER e))::rs) ss:=by
 have HZ:=h_ hz;have HZ2:Hid (PRz (PT 8) hs ms ts cs ds er):=h_ (hz.pt_ rfl);have HER:Hid ((er.setIfInBounds 0 (.int .i64 e))=ER e):=h_ (A1Q hz.er);clear hz;go_enter func125,ntmps125
 go_wp2_with (first
  |(go_at_call 91;refine cB (iC _) hm ?_;clear hm;intro w1 hm)
  |(with_reducible refine wa 76 hm BX ?_;clear hm;intro w g hm)
  |(with_reducible refine gBu ?_;(refine A8 rfl (MN rfl rfl rfl) ?_))
  |(with_reducible refine gSt (t:=134) ?_;(refine Ad rfl (Aj 1 hm rfl rfl (Ac rfl) rfl (Cm _) (by rw [Bg HZ.out];decide) (Ei _) (Eh HZ.out rfl) ?_);clear hm;intro w hm;try simp only [puts,s2,List.set] at hm))
  |(with_reducible first|(refine wc 25 1 hm ?_ (hf:=(by with_unfolding_all rw [Bg HZ2.out];decide)) (hn:=c_z (qc HZ2.out (i:=0) (by decide) _));clear hm;intro w hm)|(refine ws 76 0 hm ?_ (h1:=c_z (Ak _ _ _ _ _ rfl _));clear hm;intro w hm)))
 rw [HER.out] at hm;exact xc5
variable {l:I_} {c g k m p:Nat}
theorem A4t:∃ i,Gv prog 22 5 i (.int .u8 0) 1:=Md
def Tail (X:Rws) (v:Value) (l:I_):Prop:=(v=.slice none 0 0/\l=[]/\X=[])\/∃ g p c cells,X=[(g,cells)]/\v=.slice (some ⟨g,p,none⟩) l.length c/\l.length<=c/\p+c<=cells.size/\∀ j,j < l.length->cells[p+j]?=some (.int .u8 (gi l j))
theorem Tail.shape {X:Rws} {v:Value} (h:Tail X v l):∃ ad c,v=.slice ad l.length c:=by
 rcases h with ⟨rfl,rfl,_⟩|⟨g,p,c,cells,_,rfl,_⟩
 ·exact ⟨_,_,rfl⟩
 ·exact ⟨_,_,rfl⟩
@[reducible] def RD (v:Value) (bit used:Int) (e:Bool):A_:=#[v,.int .i64 bit,.int .i64 used,.bool e]
theorem brnew (w0 w:World) (rs:Rws) (ss:List Sl) (hm:Own w0 w rs ss):Calls prog 34 #[] w fun x w'=>∃ gr,x=.returned (.pointer (some ⟨gr,0,none⟩))/\Own w0 w' ((gr,RD (.slice none 0 0) 0 0 false)::rs) ss:=by
 go_enter func34,ntmps34
 go_wp2_with ((with_reducible refine wb hm ?_;clear hm;intro w g hm))
 go_ret;exact ⟨_,rfl,hm⟩
theorem jS (gr:Nat) (v:Value) (bit used:Int) (e:Bool) (w0 w:World) (rs:Rws) (ss:List Sl) (hm:Own w0 w ((gr,RD v bit used e)::rs) ss):Calls prog 133 #[.pointer (some ⟨gr,0,none⟩)] w fun x w'=>(x=.returned (.bool e))/\Own w0 w' ((gr,RD v bit used e)::rs) ss:=by
 go_enter func133,ntmps133
 exact xei
theorem A8g (gr:Nat) (v:Value) (bit used:Int) (e:Bool) (w0 w:World) (rs:Rws) (ss:List Sl) (hm:Own w0 w ((gr,RD v bit used e)::rs) ss):Calls prog 95 #[.pointer (some ⟨gr,0,none⟩)] w fun x w'=>(x=.returned (.int .i64 used))/\Own w0 w' ((gr,RD v bit used e)::rs) ss:=by
 go_enter func95,ntmps95
 exact xei
theorem brend (gr:Nat) (v:Value) (bit used:Int)  (w0 w:World) (rs:Rws) (ss:List Sl) (hm:Own w0 w ((gr,RD v bit used false)::rs) ss):Calls prog 37 #[.pointer (some ⟨gr,0,none⟩)] w fun x w'=>(x=.returned (.bool true))/\Own w0 w' ((gr,RD v bit used true)::rs) ss:=by
 go_enter func37,ntmps37
 go_wp2_with (first
  |(with_reducible refine wl _ 0 hm ?_)
  |(refine Ad rfl (AZ 0 hm rfl rfl rfl rfl (ot rfl) (by simp) rfl rfl rfl ?_);clear hm;intro w hm;try simp only [s2,List.set,List.eraseIdx,s3] at hm)
   )
 all_goals (go_ret;exact ⟨rfl,hm⟩)
theorem fH (gr:Nat) (ad:Option Addr) (n c:Nat) (bit used:Int) (e:Bool) (w0 w:World) (rs:Rws) (ss:List Sl) (hm:Own w0 w ((gr,RD (.slice ad n c) bit used e)::rs) ss) (hn:n<=1000000) (h0:0<=bit) (h7:bit<=7):Calls prog 132 #[.pointer (some ⟨gr,0,none⟩)] w fun x w'=>(x=.returned (.int .i64 ((n:Int) * 8 - bit)))/\Own w0 w' ((gr,RD (.slice ad n c) bit used e)::rs) ss:=by
 go_enter func132,ntmps132
 go_wp2_with fail
 refine rO hm 12 (.rds [(0,false),(1,false),(2,false),(3,true),(4,false),(5,false),(6,false),(7,false),(8,false),(9,true),(10,false),(11,false)] .done) ?_;clear hm;intro w hm;simp only [KT.rds]
 iterate 3 refine kq ?_
 refine km (fun W hm=>ld 0 hm rfl rfl rfl (ot rfl) rfl) ?_;refine kq ?_
 (refine K_p rfl rfl (fun W=>by go_simp;((rw [IntWalk.i64_in _ (by omega)];done))) ?_)
 try simp only [Act.put,s3]
 iterate 3 refine kq ?_
 refine km (fun W hm=>ld 0 hm rfl rfl rfl (ot rfl) rfl) ?_
 (refine K_p rfl rfl (fun W=>by go_simp;((rw [IntWalk.i64_in _ (by omega)];done))) ?_)
 try simp only [Act.put,s3]
 refine kq ?_;refine Ba ?_;go_simp;go_wp2;exact xg8
def big (l:I_):Int:=l.foldl (fun v c=>v * 256+c) 0
theorem wraps_u64 (n:Int) (h0:0<=n) (h1:n < 2 ^ 64):IntKind.u64.wrap n=n:=IntWalk.u64_in n (by omega)
theorem A23 (x y:Int) (h0:0<=x) (h1:x<=255) (g0:0<=y) (g1:y<=255):bits .or .u64 (x * 256) y=x * 256+y :=
 bits_join .u64 64 (by decide) wraps_u64 8 (x * 256) y (by omega) (by omega) (by omega) g0 (by omega) (by omega)
theorem ZI (h:Bytes l) (j:Nat):0<=gi l j/\gi l j<=255:=by
 by_cases hj:j < l.length
 ·rw [BZ l j hj];have:=h _ (List.getElem_mem hj);omega
 ·simp [gi,List.getElem?_eq_none (Nat.le_of_not_lt hj)]
theorem and7 (x:Int) (h0:0<=x) (h1:x < 9223372036854775808):bits .and .i64 x 7=x % 8:=bits_mask .i64 63 (by decide) (fun n h0 h1=>IntWalk.i64_in n (by omega)) 3 (by decide) x h0 h1
theorem xI (l:I_) (k:Nat) (h:k < l.length):big (l.take (k+1))=big (l.take k) * 256+gi l k:=by
 rw [FQ l k h,big,List.foldl_append];rfl
theorem pk_eq (x:Int) (m W:Nat) (hx0:0<=x) (hx:x < 65536) (hW:W<=8):bits .and .u64 (x / 2 ^ m) (IntKind.u64.wrap (IntKind.u64.wrap (2 ^ W) - 1)) % 4294967296=x / 2 ^ m % 2 ^ W:=by
 have hp:(0:Int) < 2 ^ m:=Int.pow_pos (by decide);have h1:0<=x / 2 ^ m:=Int.ediv_nonneg hx0 (by omega);have h2:x / 2 ^ m<=x:=Int.ediv_le_self _ hx0;have hw1:(0:Int) < 2 ^ W:=Int.pow_pos (by decide);have hw2:(2:Int) ^ W<=2 ^ 8:=by exact_mod_cast Nat.pow_le_pow_right (by decide:0 < 2) hW
 rw [IntWalk.u64_in (2 ^ W) (by omega),IntWalk.u64_in _ (by omega),bits_mask .u64 64 (by decide) wraps_u64 W (by omega) _ h1 (by omega)];have:=Int.emod_nonneg (x / 2 ^ m) (show (2:Int) ^ W ≠ 0 by omega);have:=Int.emod_lt_of_pos (x / 2 ^ m) hw1;omega
def pk (l:I_) (bit W:Nat):Int:=big (l.take ((bit+W+7) / 8)) / 2 ^ ((bit+W+7) / 8 * 8 - bit - W) % 2 ^ W
theorem A0I (l:I_) (h:l.length<=2) (hb:∀ x ∈ l,0<=x/\x<=255):0<=big l/\big l < 65536:=by
 match l,h,hb with
|[],_,_=>simp [big]
|[a],_,hb=>have:=hb a (by simp);simp [big];omega
|[a,b],_,hb=>have:=hb a (by simp);have:=hb b (by simp);simp [big];omega
theorem oC (l:I_) (k:Nat) (hb:Bytes l) (h:k < m) (hm:m<=2):0<=big (l.take k)/\big (l.take k)<=255:=by
 by_cases hk:k=0
 ·subst hk;simp [big]
 ·have hk1:k=1:=by omega
  subst hk1;have h0:=ZI hb 0;cases l with
 |nil=>simp [big]
 |cons a l=>simp [big,gi] at h0 ⊢;exact h0
theorem A2C (gr g p c:Nat) (l:I_) (bit W:Nat) (used:Int) (e:Bool) (cells:A_) (w0 w:World) (rs:Rws) (ss:List Sl) (hm:Own w0 w ((gr,RD (.slice (some ⟨g,p,none⟩) l.length c) bit used e)::(g,cells)::rs) ss) (hc:l.length<=c) (hcells:∀ j,j < l.length->cells[p+j]?=some (.int .u8 (gi l j))) (hB:Bytes l) (hl:l.length<=1000000) (hb:bit<=7) (hW:W<=8) (hW1:1<=W) (hf:bit+W<=8 * l.length):Calls prog 208 #[.pointer (some ⟨gr,0,none⟩),.int .i64 W] w fun x w'=>(x=.returned (.tuple #[.int .u32 (pk l bit W),.bool true]))/\Own w0 w' ((gr,RD (.slice (some ⟨g,p,none⟩) l.length c) bit used e)::(g,cells)::rs) ss:=by
 have q1:decide ((W:Int) < 0)=false:=d_f;have q2:decide (32 < (W:Int))=false:=d_f;have q3:decide ((l.length:Int) * 8 - bit < W)=false:=d_f;have CL:Hid (∀ {w},Own w0 w ((gr,RD (.slice (some ⟨g,p,none⟩) l.length c) bit used e)::(g,cells)::rs) ss->Calls prog 132 #[.pointer (some ⟨gr,0,none⟩)] w fun x w'=>(x=.returned (.int .i64 ((l.length:Int) * 8 - bit)))/\Own w0 w' ((gr,RD (.slice (some ⟨g,p,none⟩) l.length c) bit used e)::(g,cells)::rs) ss):=h_ fun hm=>fH _ _ _ _ _ _ _ _ _ _ _ hm hl (by omega) (by omega);have HC:=h_ hcells;have HB:=h_ hB;clear hcells hB;go_enter func208,ntmps208
 go_wp2_with (first
  |(go_at_call 132;have _t:=hm;refine (CL.out hm).mono ?_;clear _t;clear hm;rintro e w ⟨rfl,hm⟩)
  |(with_reducible refine wl _ 0 hm ?_)
   )
 obtain ⟨many,hmany⟩:∃ many:Nat,many=(bit+W+7) / 8:=⟨_,rfl⟩;have hm2:many<=2:=by omega
 have hm3:many<=l.length:=by omega
 rw [show ((bit:Int)+(W:Int)+7) / 8=((many:Nat):Int) by omega,<- hmany];have HM:=h_ hmany;clear hmany;obtain ⟨i5,hE⟩:=Md;have HE:=h_ hE;clear hE
 go_loopw [6,41] (fun z u wr=>∃ k:Nat,k<=many/\u=.int .i64 k/\z=.int .u64 (big (l.take k))/\Own w0 wr ((gr,RD (.slice (some ⟨g,p,none⟩) l.length c) bit used e)::(g,cells)::rs) ss) (fun _ u _=>many - (intOf u).toNat)
 case atStart=>exact ⟨0,by omega,rfl,rfl,hm⟩
 case round =>
  clear hm;obtain ⟨k,hk,rfl,rfl,hm⟩:=hrel;by_cases hlt:k < many
  ·have hA:=(hm.row 1 rfl).cell (p+k);rw [HC.out k (by omega)] at hA;have hAA:‹World›.cell? (({ block:=g,off:=p }:Addr).add k)=some (.int .u8 (gi l k)):=by rw [Addr.add_lit];exact hA
   clear hA;have hbk:=oC l k HB.out hlt hm2;have HS:=h_ (xI l k (by omega));generalize big (l.take k)=x at *;have hgb:=ZI HB.out k;generalize gi l k=y at *
   go_wp2_with (first
   |(refine A8 rfl (Am rfl HE.out rfl rfl rfl hlt) ?_)
   |(refine A8 rfl (AU rfl rfl (ot rfl) hAA) ?_))
   rw [A23 x y hbk.1 hbk.2 hgb.1 hgb.2,<- HS.out];go_roundw
   case rel=>exact ⟨k+1,by omega,by go_num,rfl,hm⟩
   case measure=>simp [intOf];omega
  ·obtain rfl:k=many:=by omega
   have hbt:=A0I (l.take k) (by simp;omega) (fun x hx=>by have:=HB.out x (List.mem_of_mem_take hx);omega);have HP:Hid (pk l bit W=big (l.take k) / 2 ^ (k * 8 - bit - W) % 2 ^ W):=h_ (by rw [pk,<- HM.out]);have HX:=h_ hbt;clear hbt;have s1:bit+W<=k * 8:=by have:=HM.out;omega
   have s2:k * 8<=16:=by omega
   clear hlt;generalize big (l.take k)=x at *
   go_wp2_with ((with_reducible refine wl _ 0 hm ?_))
   rw [pk_eq x _ W HX.out.1 HX.out.2 hW,<- HP.out]
   go_ret2
   exact ⟨rfl,hm⟩
def Ui (w0:World) (gr:Nat) (X rs:Rws) (ss:List Sl) (l:I_) (bit W:Nat) (used:Int) (e:Bool) (x:Ending) (w':World):Prop :=
 x=.returned (.tuple #[.int .u32 (pk l bit W),.bool true])/\∃ v',Tail X v' (l.drop ((bit+W) / 8))/\Own w0 w' ((gr,RD v' (((bit+W) % 8:Nat):Int) (used+W) e)::(X++rs)) ss
theorem Tail.sub {cells:A_} (hc:l.length<=c) (hs:p+c<=cells.size) (hcells:∀ j,j < l.length->cells[p+j]?=some (.int .u8 (gi l j))) (hk:k<=l.length):Tail [(g,cells)] (.slice (D8 (some ⟨g,p,none⟩) c k) (l.length - k) (c - k)) (l.drop k):=by
 refine .inr ?_;by_cases h:c=k
 ·refine ⟨g,p,0,cells,rfl,by rw [D8,if_pos h,h];simp,by simp;omega,by omega,fun j hj=>?_⟩;simp at hj;omega
 ·refine ⟨g,p+k,c - k,cells,rfl,by rw [D8,if_neg h,Option.map_some,Addr.add_lit,List.length_drop],by simp;omega,by omega,fun j hj=>?_⟩;rw [List.length_drop] at hj;rw [Nat.add_assoc,hcells (k+j) (by omega)];simp [gi]
theorem VU (gr:Nat) (X:Rws) (v:Value) (l:I_) (bit W:Nat) (used:Int) (e:Bool) (w0 w:World) (rs:Rws) (ss:List Sl) (hm:Own w0 w ((gr,RD v bit used e)::(X++rs)) ss) (ht:Tail X v l) (hB:Bytes l) (hl:l.length<=1000000) (hb:bit<=7) (hW:W<=8) (hW1:1<=W) (hu0:0<=used) (hu1:used<=100000000000) (hf:bit+W<=8 * l.length):Calls prog 166 #[.pointer (some ⟨gr,0,none⟩),.int .i64 W] w (Ui w0 gr X rs ss l bit W used e):=by
 rcases ht with ⟨rfl,rfl,rfl⟩|⟨g,p,c,cells,rfl,rfl,hc,hs,hcells⟩
 ·simp at hf;omega
 simp only [s2] at hm;have CP:Hid (∀ {w},Own w0 w ((gr,RD (.slice (some ⟨g,p,none⟩) l.length c) bit used e)::(g,cells)::rs) ss->Calls prog 208 #[.pointer (some ⟨gr,0,none⟩),.int .i64 W] w fun x w'=>(x=.returned (.tuple #[.int .u32 (pk l bit W),.bool true]))/\Own w0 w' ((gr,RD (.slice (some ⟨g,p,none⟩) l.length c) bit used e)::(g,cells)::rs) ss):=h_ fun hm=>A2C _ _ _ _ _ _ _ _ _ _ _ _ _ _ hm hc hcells hB hl hb hW hW1 hf;have HC:Hid (∀ k,k<=l.length->Tail [(g,cells)] (.slice (D8 (some ⟨g,p,none⟩) c k) (l.length - k) (c - k)) (l.drop k)):=h_ fun k hk=>Tail.sub hc hs hcells hk;clear hcells hs;obtain ⟨k,hk⟩:∃ k:Nat,k=(bit+W) / 8:=⟨_,rfl⟩;have k1:k<=l.length:=by omega
 have k2:k<=c:=by omega
 have HK:Hid (((bit:Int)+W) / 8=(k:Int)):=h_ (by omega);have HK2:=h_ hk;clear hk;have HM2:Hid (bits .and .i64 ((bit:Int)+W) 7=(((bit+W) % 8:Nat):Int)):=h_ (by rw [and7 _ (by omega) (by omega)];push_cast;rfl);obtain ⟨y,hy⟩:∃ y,y=pk l bit W:=⟨_,rfl⟩;rw [<- hy] at CP;have HY:=h_ hy;clear hy;obtain ⟨i5,hE⟩:=Md;have HE:=h_ hE;clear hE;go_enter func166,ntmps166
 go_upto_region 6 with (first
  |(go_at_call 208;have _t:=hm;refine (CP.out hm).mono ?_;clear _t;clear hm;rintro e w ⟨rfl,hm⟩)
  |(with_reducible refine wl _ 0 hm ?_)
  |(refine Ad rfl (AZ 0 hm rfl rfl (Ac rfl) rfl (ot rfl) (by simp) rfl rfl rfl ?_);clear hm;intro w hm;try simp only [s2,List.set,List.eraseIdx,s3] at hm)
   )
 refine rO hm 13 (.rds [(0,false),(1,false),(2,false),(3,false),(4,true),(5,false),(6,false),(7,false),(8,true),(9,false),(10,false),(11,false),(12,false)] (.brk 13 14 .done)) ?_;clear hm;intro w hm;simp only [KT.rds]
 iterate 4 refine kq ?_
 refine km (fun W hm=>ld 0 hm rfl rfl rfl (ot rfl) rfl) ?_
 iterate 3 refine kq ?_
 refine km (fun W hm=>ld 0 hm rfl rfl rfl (ot rfl) rfl) ?_
 (refine K_p rfl rfl (fun W=>by go_simp;((rw [HK.out];done))) ?_)
 try simp only [Act.put,s3]
 (refine K_p rfl rfl (fun W=>A2Y (l:=k) rfl HE.out rfl (.inr ⟨_,rfl⟩) (.inl ⟨rfl,rfl⟩) k1 hc) ?_)
 try simp only [Act.put,s3]
 iterate 2 refine kq ?_
 ((refine Em rfl rfl (AZ 0 hm rfl rfl (Ac rfl) rfl (ot rfl) (by simp) rfl rfl rfl ?_)))
 clear hm;intro w hm
 try simp only [s2,List.set,List.eraseIdx,s3] at hm
 refine ⟨fun W=>Own _ W _ _,hm,?_⟩
 try simp only [Act.put,s3]
 refine Ba ?_;go_simp
 go_wp2_with (first
  |(with_reducible refine wl _ 0 hm ?_)
  |(refine Ad rfl (AZ 0 hm rfl rfl (Ac rfl) rfl (ot rfl) (by simp) rfl rfl rfl ?_);clear hm;intro w hm;try simp only [s2,List.set,List.eraseIdx,s3] at hm)
   )
 rw [HM2.out] at hm;unfold Ui;rw [<- HY.out]
 go_ret2
 exact ⟨rfl,_,by rw [<- HK2.out];exact HC.out k k1,hm⟩
theorem nZ (gr:Nat) (v:Value) (l:I_) (bit W:Nat) (used:Int) (e:Bool) (w0 w:World) (rs:Rws) (ss:List Sl) (hm:Own w0 w ((gr,RD v bit used e)::rs) ss) (hv:∃ ad c,v=.slice ad l.length c) (hl:l.length<=1000000) (hb:bit<=7) (hW:W<=8) (hW1:1<=W) (hf:8 * l.length < bit+W):Calls prog 208 #[.pointer (some ⟨gr,0,none⟩),.int .i64 W] w fun x w'=>(x=.returned (.tuple #[.int .u32 0,.bool false]))/\Own w0 w' ((gr,RD v bit used e)::rs) ss:=by
 obtain ⟨ad,c,rfl⟩:=hv;have q1:decide ((W:Int) < 0)=false:=d_f;have q2:decide (32 < (W:Int))=false:=d_f;have q3:decide ((l.length:Int) * 8 - bit < W)=true:=d_t;have CL:Hid (∀ {w},Own w0 w ((gr,RD (.slice ad l.length c) bit used e)::rs) ss->Calls prog 132 #[.pointer (some ⟨gr,0,none⟩)] w fun x w'=>(x=.returned (.int .i64 ((l.length:Int) * 8 - bit)))/\Own w0 w' ((gr,RD (.slice ad l.length c) bit used e)::rs) ss):=h_ fun hm=>fH _ _ _ _ _ _ _ _ _ _ _ hm hl (by omega) (by omega);go_enter func208,ntmps208
 go_wp2_with ((go_at_call 132;have _t:=hm;refine (CL.out hm).mono ?_;clear _t;clear hm;rintro e w ⟨rfl,hm⟩))
 go_ret2
 exact ⟨rfl,hm⟩
theorem nY (gr:Nat) (X:Rws) (v:Value) (l:I_) (bit W:Nat) (used:Int) (e:Bool) (w0 w:World) (rs:Rws) (ss:List Sl) (hm:Own w0 w ((gr,RD v bit used e)::(X++rs)) ss) (ht:Tail X v l) (hl:l.length<=1000000) (hb:bit<=7) (hW:W<=8) (hW1:1<=W) (hu0:0<=used) (hu1:used<=100000000000) (hf:8 * l.length < bit+W):Calls prog 166 #[.pointer (some ⟨gr,0,none⟩),.int .i64 W] w fun x w'=>(x=.returned (.tuple #[.int .u32 0,.bool false]))/\Own w0 w' ((gr,RD v bit used e)::(X++rs)) ss:=by
 have CP:Hid (∀ {w},Own w0 w ((gr,RD v bit used e)::(X++rs)) ss->Calls prog 208 #[.pointer (some ⟨gr,0,none⟩),.int .i64 W] w fun x w'=>(x=.returned (.tuple #[.int .u32 0,.bool false]))/\Own w0 w' ((gr,RD v bit used e)::(X++rs)) ss):=h_ fun hm=>nZ _ _ _ _ _ _ _ _ _ _ _ hm ht.shape hl hb hW hW1 hf;go_enter func166,ntmps166
 go_wp2_with ((go_at_call 208;have _t:=hm;refine (CP.out hm).mono ?_;clear _t;clear hm;rintro e w ⟨rfl,hm⟩))
 go_ret2
 exact ⟨rfl,hm⟩
def Wq (w0:World) (gr:Nat) (X rs:Rws) (ss:List Sl) (l:I_) (bit:Nat) (used:Int) (e:Bool) (x:Ending) (w':World):Prop :=
 x=.returned (.tuple #[.int .u32 (pk l bit (8 - bit)),.int .i64 ((8 - bit:Nat):Int)])/\∃ v',Tail X v' (l.drop 1)/\Own w0 w' ((gr,RD v' 0 (used+(8 - bit:Nat)) e)::(X++rs)) ss
theorem o8 (gr:Nat) (X:Rws) (v:Value) (l:I_) (used:Int) (e:Bool) (w0 w:World) (rs:Rws) (ss:List Sl) (hm:Own w0 w ((gr,RD v 0 used e)::(X++rs)) ss) (ht:Tail X v l) (hB:Bytes l) (hl:l.length<=1000000) (hu0:0<=used) (hu1:used<=100000000000):Calls prog 131 #[.pointer (some ⟨gr,0,none⟩)] w fun x w'=>(x=.returned (.tuple #[.int .u32 0,.int .i64 0]))/\Own w0 w' ((gr,RD v 0 used e)::(X++rs)) ss:=by
 go_enter func131,ntmps131
 go_wp2_with ((with_reducible refine wl _ 0 hm ?_))
 go_ret2
 exact ⟨rfl,hm⟩
theorem o7 (gr:Nat) (X:Rws) (v:Value) (l:I_) (bit:Nat) (used:Int) (e:Bool) (w0 w:World) (rs:Rws) (ss:List Sl) (hm:Own w0 w ((gr,RD v bit used e)::(X++rs)) ss) (ht:Tail X v l) (hB:Bytes l) (hl:l.length<=1000000) (hb:bit<=7) (hu0:0<=used) (hu1:used<=100000000000) (h1:1<=bit) (hne:1<=l.length):Calls prog 131 #[.pointer (some ⟨gr,0,none⟩)] w (Wq w0 gr X rs ss l bit used e):=by
 have q1:((bit:Int) == 0)=false:=by simp;omega
 obtain ⟨W,hWe⟩:∃ W:Nat,W=8 - bit:=⟨_,rfl⟩;have CT:Hid (∀ {w},Own w0 w ((gr,RD v bit used e)::(X++rs)) ss->Calls prog 166 #[.pointer (some ⟨gr,0,none⟩),.int .i64 W] w (Ui w0 gr X rs ss l bit W used e)):=h_ fun hm=>VU _ _ _ _ _ _ _ _ _ _ _ _ hm ht hB hl hb (by omega) (by omega) hu0 hu1 (by omega);have e1:IntKind.i64.wrap (8 - (bit:Int))=(W:Int):=by rw [IntWalk.i64_in _ (by omega)];omega
 have HW:=h_ hWe;have HZ:Hid ((bit+W) / 8=1/\(bit+W) % 8=0):=h_ ⟨by omega,by omega⟩;have e2:8 - (bit:Int)=(W:Int):=by omega
 clear hWe;go_enter func131,ntmps131
 go_wp2_with (first
  |(go_at_call 166;have _t:=hm;refine (CT.out hm).mono ?_;clear _t;clear hm;rintro e w ⟨rfl,v2,ht2,hm⟩)
  |(with_reducible refine wl _ 0 hm ?_)
   )
 go_ret2
 rw [HZ.out.1] at ht2;rw [HZ.out.2] at hm;unfold Wq;rw [<- HW.out];exact ⟨rfl,v2,ht2,hm⟩
theorem Tail.lies {X:Rws} {v:Value} {l:I_} (h:Tail X v l):Lies 1 X v l.length (vs .u8 l):=by
 refine ⟨by simp [vs],?_⟩;rcases h with ⟨rfl,rfl,rfl⟩|⟨g,p,c,cells,rfl,rfl,hc,hs,hcells⟩
 ·exact .inl ⟨rfl,rfl,rfl,rfl⟩
 ·exact .inr ⟨g,p,c,cells,rfl,rfl,hc,by omega,fun j hj=>by rw [Ai] at hj;rw [hcells j hj,Fg _ _ j hj]⟩
theorem Tail.A09 {X:Rws} {v:Value} {n:Nat} {l:I_} (h:Lies 1 X v n (vs .u8 l)):Tail X v l:=by
 have hn:n=l.length:=by have:=h.1;simp [vs] at this;omega
 subst hn;rcases h.2 with ⟨rfl,hx,hn,rfl⟩|⟨g,p,c,cells,rfl,rfl,hc,hs,hcells⟩
 ·exact .inl ⟨rfl,List.length_eq_zero_iff.1 hn,rfl⟩
 ·exact .inr ⟨g,p,c,cells,rfl,rfl,hc,by omega,fun j hj=>by rw [hcells j (by rw [Ai];exact hj),Fg _ _ j hj]⟩
def ay (w0:World) (gr gq:Nat) (u:Value) (rs:Rws) (ss:List Sl) (l:I_) (bit used:Int) (x:Ending) (w':World):Prop :=
 x=.returned (.bool true)/\∃ X v,Tail X v l/\Own w0 w' ((gr,RD v bit used false)::(gq,#[u])::(X++rs)) ss
theorem A2D (gr gq:Nat) (X:Rws) (v u:Value) (l m:I_) (bit used:Int) (w0 w:World) (rs:Rws) (ss:List Sl) (hm:Own w0 w ((gr,RD v bit used false)::(gq,#[u])::(X++rs)) ss) (ht:Tail X v l) (hu:∀ W,Own w0 W ((gr,RD v bit used false)::(gq,#[u])::(X++rs)) ss->Src W u (vs .u8 m)) (hl:l.length+m.length<=1000000):Calls prog 36 #[.pointer (some ⟨gr,0,none⟩),.slice (some ⟨gq,0,none⟩) 1 1] w (ay w0 gr gq u rs ss (l++m) bit used):=by
 have HT:=h_ ht.lies;have HU:Hid (∀ W,Own w0 W ((gr,RD v bit used false)::(gq,#[u])::(X++rs)) ss->From 1 W u m.length (vs .u8 m)):=h_ fun W h=>by have:=From.tK (hu W h);rwa [Ai] at this
 clear ht hu;obtain ⟨i5,hE⟩:=nP;have HE:=h_ hE;obtain ⟨i7,hE7⟩:=wO;have HE7:=h_ hE7;clear hE hE7;go_enter func36,ntmps36
 go_wp2_with ((with_reducible refine wl _ 0 hm ?_))
 go_loopw [17] (fun z wr=>(z=.int .i64 0/\Own w0 wr ((gr,RD v bit used false)::(gq,#[u])::(X++rs)) ss)\/(z=.int .i64 1/\∃ X v,Tail X v (l++m)/\Own w0 wr ((gr,RD v bit used false)::(gq,#[u])::(X++rs)) ss)) (fun z _=>1 - (intOf z).toNat)
 case atStart=>exact .inl ⟨rfl,hm⟩
 case round =>
  clear hm;rcases hrel with ⟨rfl,hm⟩|⟨rfl,X2,v2,ht2,hm⟩
  ·have hA:‹World›.cell? (({ block:=gq,off:=0 }:Addr).add 0)=some u:=by rw [Addr.add_lit];exact (hm.row 1 rfl).cell 0
   go_wp2_with (first
  |(refine A8 rfl (Am (k:=0) rfl HE7.out rfl rfl rfl (by omega)) ?_)
  |(refine A8 rfl (AU rfl rfl (ot rfl) hA) ?_)
  |(refine Ad rfl (GR (A:=[_,_]) hm rfl HE.out (Ac rfl) HT.out (Ac rfl) HU.out (Ic _ _) (by omega) (by omega) (by omega) ?_);clear hm;intro X2 v2 w hX hm;simp only [s2] at hm;obtain ⟨ad2,c2,rfl⟩:=hX.shape)
  |(with_reducible refine wl _ 0 hm ?_)
  |(refine Ad rfl (AZ 0 hm rfl rfl (Ac rfl) rfl (ot rfl) (by simp) rfl rfl rfl ?_);clear hm;intro w hm;try simp only [s2,List.set,List.eraseIdx,s3] at hm)
   )
   rw [qy] at hX;go_roundw
   case rel=>exact .inr ⟨by go_num,_,_,Tail.A09 hX,hm⟩
   case measure=>simp [intOf]
  ·go_wp2;go_ret;exact ⟨rfl,X2,v2,ht2,hm⟩
variable {cs tmps:A_} {ss:List Sl} {g p q:Nat × A_} {P:Program} {rs:Rws} {ty:TypeId} {w w0:World}
theorem Own.bM {X:Rws} (h:Own w0 w (g::p::q::(X++rs)) ss):Own w0 w (q::(X++(p::g::rs))) ss:=h.perm ((List.Perm.cons q ((List.perm_middle).trans (List.Perm.cons p List.perm_middle))).trans ((List.Perm.swap p q _).trans (((List.Perm.swap g q _).cons p).trans (List.Perm.swap g p _))))
theorem Own.Nh {X:Rws} (h:Own w0 w (q::(X++(p::g::rs))) ss):Own w0 w (g::p::q::(X++rs)) ss:=h.perm (List.Perm.symm ((List.Perm.cons q ((List.perm_middle).trans (List.Perm.cons p List.perm_middle))).trans ((List.Perm.swap p q _).trans (((List.Perm.swap g q _).cons p).trans (List.Perm.swap g p _)))))
theorem Qj {fn:Func} {p t u:Tmp} (h:fn.results=#[.tmp t,.cell p ty,.tmp u]) {g:Nat} (hp:tmps.getD p undef=.pointer (some ⟨g,0,none⟩)) (hr:AA w g cs) (ht:Aq P ty cs.size):(results fn tmps).run P w=.ok (.tuple #[tmps.getD t undef,.agg cs,tmps.getD u undef]) w:=by
 have hp':tmps[p]?.getD undef=.pointer (some ⟨g,0,none⟩):=by simpa using hp
 simp [results,h,hp',asAddr,Ec hr ht]
theorem A5H (gp gr:Nat) (pt hs ms ts cs ds er:A_) (X:Rws) (v:Value) (l:I_) (bit W:Nat) (used:Int) (e:Bool) (w0 w:World) (rs:Rws) (ss:List Sl) (hm:Own w0 w ((gp,PR pt hs ms ts cs ds er)::(gr,RD v bit used e)::(X++rs)) ss) (hz:PRz pt hs ms ts cs ds er) (ht:Tail X v l) (hl:l.length<=1000000) (hb:bit<=7) (hW:W<=8) (hW1:1<=W) (hu0:0<=used) (hu1:used<=100000000000) (hf:8 * l.length < bit+W) (he:e=false):Calls prog 124 #[.pointer (some ⟨gp,0,none⟩),.pointer (some ⟨gr,0,none⟩),.int .i64 W] w fun x w'=>(x=.returned (.tuple #[.int .u32 0,.agg (EVT 1 0 0 0 0 (.slice none 0 0) 0),.bool false]))/\Own w0 w' ((gp,PR pt hs ms ts cs ds er)::(gr,RD v bit used e)::(X++rs)) ss:=by
 subst he;have CT:Hid (∀ W0 g,Own w0 W0 (g::(gp,PR pt hs ms ts cs ds er)::(gr,RD v bit used false)::(X++rs)) ss->Calls prog 166 #[.pointer (some ⟨gr,0,none⟩),.int .i64 W] W0 fun x w'=>(x=.returned (.tuple #[.int .u32 0,.bool false]))/\Own w0 w' (g::(gp,PR pt hs ms ts cs ds er)::(gr,RD v bit used false)::(X++rs)) ss):=h_ fun W0 g h=>(nY gr X v l bit W used false w0 W0 ((gp,PR pt hs ms ts cs ds er)::g::rs) ss h.bM ht hl hb hW hW1 hu0 hu1 hf).mono fun x w' h=>⟨h.1,h.2.Nh⟩;have CE:Hid (∀ W0 g,Own w0 W0 (g::(gp,PR pt hs ms ts cs ds er)::(gr,RD v bit used false)::(X++rs)) ss->Calls prog 133 #[.pointer (some ⟨gr,0,none⟩)] W0 fun x w'=>(x=.returned (.bool false))/\Own w0 w' (g::(gp,PR pt hs ms ts cs ds er)::(gr,RD v bit used false)::(X++rs)) ss):=h_ fun W0 g h=>(jS gr v bit used false w0 W0 (X++((gp,PR pt hs ms ts cs ds er)::g::rs)) ss h.bM).mono fun x w' h=>⟨h.1,h.2.Nh⟩
 clear hz ht hl hb hu0 hu1 hf;go_enter func124,ntmps124
 go_wp2_with (first
  |(go_at_call 166;have _t:=hm;refine (CT.out _ _ hm).mono ?_;clear _t hm;rintro x w ⟨rfl,hm⟩)
  |(go_at_call 133;have _t:=hm;refine (CE.out _ _ hm).mono ?_;clear _t hm;rintro x w ⟨rfl,hm⟩)
  |(with_reducible refine wa 76 hm BX ?_;clear hm;intro w g hm)
  |(with_reducible refine gBu (t:=76) ?_;(refine A8 rfl (A4r rfl rfl) ?_))
  |(with_reducible refine ws 76 0 hm ?_ (h1:=c_z (Ak _ _ _ _ _ rfl _));clear hm;intro w hm)
   )
 exact xep
theorem aS (gp gr:Nat) (pt hs ms ts cs ds er:A_) (X:Rws) (v:Value) (l:I_) (bit W:Nat) (used:Int) (e:Bool) (w0 w:World) (rs:Rws) (ss:List Sl) (hm:Own w0 w ((gp,PR pt hs ms ts cs ds er)::(gr,RD v bit used e)::(X++rs)) ss) (hz:PRz pt hs ms ts cs ds er) (ht:Tail X v l) (hl:l.length<=1000000) (hb:bit<=7) (hW:W<=8) (hW1:1<=W) (hu0:0<=used) (hu1:used<=100000000000) (hf:8 * l.length < bit+W) (he:e=true):Calls prog 124 #[.pointer (some ⟨gp,0,none⟩),.pointer (some ⟨gr,0,none⟩),.int .i64 W] w fun x w'=>(x=.returned (.tuple #[.int .u32 0,.agg (EVT 8 0 0 0 0 (.slice none 0 0) 50),.bool false]))/\Own w0 w' ((gp,PR (PT 8) hs ms ts cs ds (ER 50))::(gr,RD v bit used true)::(X++rs)) ss:=by
 subst he;have CT:Hid (∀ W0 g,Own w0 W0 (g::(gp,PR pt hs ms ts cs ds er)::(gr,RD v bit used true)::(X++rs)) ss->Calls prog 166 #[.pointer (some ⟨gr,0,none⟩),.int .i64 W] W0 fun x w'=>(x=.returned (.tuple #[.int .u32 0,.bool false]))/\Own w0 w' (g::(gp,PR pt hs ms ts cs ds er)::(gr,RD v bit used true)::(X++rs)) ss):=h_ fun W0 g h=>(nY gr X v l bit W used true w0 W0 ((gp,PR pt hs ms ts cs ds er)::g::rs) ss h.bM ht hl hb hW hW1 hu0 hu1 hf).mono fun x w' h=>⟨h.1,h.2.Nh⟩;have CE:Hid (∀ W0 g,Own w0 W0 (g::(gp,PR pt hs ms ts cs ds er)::(gr,RD v bit used true)::(X++rs)) ss->Calls prog 133 #[.pointer (some ⟨gr,0,none⟩)] W0 fun x w'=>(x=.returned (.bool true))/\Own w0 w' (g::(gp,PR pt hs ms ts cs ds er)::(gr,RD v bit used true)::(X++rs)) ss):=h_ fun W0 g h=>(jS gr v bit used true w0 W0 (X++((gp,PR pt hs ms ts cs ds er)::g::rs)) ss h.bM).mono fun x w' h=>⟨h.1,h.2.Nh⟩
 have CW:Hid (∀ W0 g,Own w0 W0 (g::(gp,PR pt hs ms ts cs ds er)::(gr,RD v bit used true)::(X++rs)) ss->Calls prog 125 #[.pointer (some ⟨gp,0,none⟩),.int .i64 50] W0 fun x w'=>(x=.returned (.tuple #[.agg (EVT 8 0 0 0 0 (.slice none 0 0) 50),.bool true]))/\Own w0 w' (g::(gp,PR (PT 8) hs ms ts cs ds (ER 50))::(gr,RD v bit used true)::(X++rs)) ss):=h_ fun W0 g h=>(Gf gp pt hs ms ts cs ds er 50 w0 W0 (g::(gr,RD v bit used true)::(X++rs)) ss (h.perm (List.Perm.swap _ _ _)) hz).mono fun x w' h=>⟨h.1,h.2.perm (List.Perm.swap _ _ _)⟩;clear hz ht hl hb hu0 hu1 hf;go_enter func124,ntmps124
 go_upto_region 6 with (first
  |(go_at_call 166;have _t:=hm;refine (CT.out _ _ hm).mono ?_;clear _t hm;rintro x w ⟨rfl,hm⟩)
  |(go_at_call 133;have _t:=hm;refine (CE.out _ _ hm).mono ?_;clear _t hm;rintro x w ⟨rfl,hm⟩)
  |(go_at_call 125;have _t:=hm;refine (CW.out _ _ hm).mono ?_;clear _t hm;rintro x w ⟨rfl,hm⟩)
  |(with_reducible first|(refine wa 76 hm BX ?_;clear hm;intro w g hm)|(refine ws 76 0 hm ?_ (h1:=c_z (Ak _ _ _ _ _ rfl _));clear hm;intro w hm))
   )
 refine rO hm 2 (.rds [(0,true),(1,false)] (.brk 2 4 (.rds [(3,false)] .done))) ?_;clear hm;intro w hm;simp only [KT.rds];refine km (fun W hm=>lda 0 hm rfl rfl rfl (Dw _ _ _ _ _ _ _)) ?_;refine kq ?_
 (refine Em rfl rfl (Aw 0 hm rfl rfl (Ac rfl) rfl (Dw _ _ _ _ _ _ _) (yS _ _ _ _ _ _ _ _ _ _ _ _ _ _) (Ak _ _ _ _ _ rfl _) ?_))
 clear hm;intro w hm
 try simp only [puts,s2,List.set,List.eraseIdx,s3] at hm
 refine ⟨fun W=>Own _ W _ _,hm,?_⟩
 try simp only [Act.put,s3]
 refine kq ?_;refine Ba ?_;go_simp;go_wp2;exact xep
theorem ig (gp gr:Nat) (pt hs ms ts cs ds er:A_) (X:Rws) (v:Value) (l:I_) (bit W:Nat) (used:Int) (e:Bool) (w0 w:World) (rs:Rws) (ss:List Sl) (hm:Own w0 w ((gp,PR pt hs ms ts cs ds er)::(gr,RD v bit used e)::(X++rs)) ss) (hz:PRz pt hs ms ts cs ds er) (ht:Tail X v l) (hl:l.length<=1000000) (hb:bit<=7) (hW:W<=8) (hW1:1<=W) (hu0:0<=used) (hu1:used<=100000000000) (hB:Bytes l) (hf:bit+W<=8 * l.length):Calls prog 124 #[.pointer (some ⟨gp,0,none⟩),.pointer (some ⟨gr,0,none⟩),.int .i64 W] w fun x w'=>(x=.returned (.tuple #[.int .u32 (pk l bit W),.agg (EVT 0 0 0 0 0 (.slice none 0 0) 0),.bool true]))/\∃ v2,Tail X v2 (l.drop ((bit+W) / 8))/\Own w0 w' ((gp,PR pt hs ms ts cs ds er)::(gr,RD v2 (((bit+W) % 8:Nat):Int) (used+W) e)::(X++rs)) ss:=by
 have CT:Hid (∀ W0 g,Own w0 W0 (g::(gp,PR pt hs ms ts cs ds er)::(gr,RD v bit used e)::(X++rs)) ss->Calls prog 166 #[.pointer (some ⟨gr,0,none⟩),.int .i64 W] W0 fun x w'=>(x=.returned (.tuple #[.int .u32 (pk l bit W),.bool true]))/\∃ v2,Tail X v2 (l.drop ((bit+W) / 8))/\Own w0 w' (g::(gp,PR pt hs ms ts cs ds er)::(gr,RD v2 (((bit+W) % 8:Nat):Int) (used+W) e)::(X++rs)) ss):=h_ fun W0 g h=>(VU gr X v l bit W used e w0 W0 ((gp,PR pt hs ms ts cs ds er)::g::rs) ss h.bM ht hB hl hb hW hW1 hu0 hu1 hf).mono fun x w' h=>by
   obtain ⟨h1,v2,h2,h3⟩:=h;exact ⟨h1,v2,h2,h3.Nh⟩
 clear hz ht hl hb hu0 hu1 hf hB;generalize pk l bit W=c at *;go_enter func124,ntmps124
 go_upto_region 3 with (first
  |(go_at_call 166;have _t:=hm;refine (CT.out _ _ hm).mono ?_;clear _t hm;rintro x w ⟨rfl,v2,ht2,hm⟩)
  |(with_reducible refine wa 76 hm BX ?_;clear hm;intro w g hm)
   )
 refine rO hm 3 (.rds [(0,false),(1,true),(2,false)] (.brk 3 5 (.rds [(4,false)] .done))) ?_;clear hm;intro w hm;simp only [KT.rds];refine kq ?_;refine km (fun W hm=>lda 0 hm rfl rfl rfl (Dw _ _ _ _ _ _ _)) ?_;refine kq ?_
 (refine Em rfl rfl (Aw 0 hm rfl rfl (Ac rfl) rfl (Dw _ _ _ _ _ _ _) (yS _ _ _ _ _ _ _ _ _ _ _ _ _ _) (Ak _ _ _ _ _ rfl _) ?_))
 clear hm;intro w hm
 try simp only [puts,s2,List.set,List.eraseIdx,s3] at hm
 refine ⟨fun W=>Own _ W _ _,hm,?_⟩
 try simp only [Act.put,s3]
 refine kq ?_;refine Ba ?_;go_simp;go_wp2;refine b_r (Qj rfl rfl (hm.row 0 rfl) (Dw _ _ _ _ _ _ _)) rfl ⟨rfl,v2,ht2,hm.dropRow⟩
theorem sW (gp:Nat) (pr:Value) (pt hs ms ts cs ds er:A_) (RR:Rws) (w0 w:World) (ss:List Sl) (hm:Own w0 w ((gp,PR pt hs ms ts cs ds er)::RR) ss) (Q:Rws->Prop) (k:Int) (e:Int) (PR2:A_) (CT:Hid (∀ W g,Own w0 W (g::(gp,PR pt hs ms ts cs ds er)::RR) ss->Calls prog 124 #[.pointer (some ⟨gp,0,none⟩),pr,.int .i64 8] W fun x w'=>(x=.returned (.tuple #[.int .u32 0,.agg (EVT k 0 0 0 0 (.slice none 0 0) e),.bool false]))/\∃ RR',Q RR'/\Own w0 w' (g::(gp,PR2)::RR') ss)):Calls prog 78 #[.pointer (some ⟨gp,0,none⟩),pr] w fun x w'=>(x=.returned (.tuple #[.agg (EVT k 0 0 0 0 (.slice none 0 0) e),.bool true]))/\∃ RR',Q RR'/\Own w0 w' ((gp,PR2)::RR') ss:=by
 go_enter func78,ntmps78
 exact xau
theorem sV (gp:Nat) (pr:Value) (pt hs ms ts cs ds er:A_) (RR:Rws) (w0 w:World) (ss:List Sl) (hm:Own w0 w ((gp,PR pt hs ms ts cs ds er)::RR) ss) (Q:Rws->Prop) (k:Int) (e:Int) (PR2:A_) (CT:Hid (∀ W g,Own w0 W (g::(gp,PR pt hs ms ts cs ds er)::RR) ss->Calls prog 124 #[.pointer (some ⟨gp,0,none⟩),pr,.int .i64 8] W fun x w'=>(x=.returned (.tuple #[.int .u32 0,.agg (EVT k 0 0 0 0 (.slice none 0 0) e),.bool false]))/\∃ RR',Q RR'/\Own w0 w' (g::(gp,PR2)::RR') ss)):Calls prog 80 #[.pointer (some ⟨gp,0,none⟩),pr] w fun x w'=>(x=.returned (.tuple #[.agg (EVT k 0 0 0 0 (.slice none 0 0) e),.bool true]))/\∃ RR',Q RR'/\Own w0 w' ((gp,PR2)::RR') ss:=by
 go_enter func80,ntmps80
 exact xau
theorem sU (gp:Nat) (pr:Value) (pt hs ms ts cs ds er:A_) (RR:Rws) (w0 w:World) (ss:List Sl) (hm:Own w0 w ((gp,PR pt hs ms ts cs ds er)::RR) ss) (Q:Rws->Prop) (k:Int) (e:Int) (PR2:A_) (CT:Hid (∀ W g,Own w0 W (g::(gp,PR pt hs ms ts cs ds er)::RR) ss->Calls prog 124 #[.pointer (some ⟨gp,0,none⟩),pr,.int .i64 1] W fun x w'=>(x=.returned (.tuple #[.int .u32 0,.agg (EVT k 0 0 0 0 (.slice none 0 0) e),.bool false]))/\∃ RR',Q RR'/\Own w0 w' (g::(gp,PR2)::RR') ss)):Calls prog 82 #[.pointer (some ⟨gp,0,none⟩),pr] w fun x w'=>(x=.returned (.tuple #[.agg (EVT k 0 0 0 0 (.slice none 0 0) e),.bool true]))/\∃ RR',Q RR'/\Own w0 w' ((gp,PR2)::RR') ss:=by
 go_enter func82,ntmps82
 exact xau
theorem sS (gp:Nat) (pr:Value) (pt hs ms ts cs ds er:A_) (RR:Rws) (w0 w:World) (ss:List Sl) (hm:Own w0 w ((gp,PR pt hs ms ts cs ds er)::RR) ss) (Q:Rws->Prop) (k:Int) (e:Int) (PR2:A_) (CT:Hid (∀ W g,Own w0 W (g::(gp,PR pt hs ms ts cs ds er)::RR) ss->Calls prog 124 #[.pointer (some ⟨gp,0,none⟩),pr,.int .i64 1] W fun x w'=>(x=.returned (.tuple #[.int .u32 0,.agg (EVT k 0 0 0 0 (.slice none 0 0) e),.bool false]))/\∃ RR',Q RR'/\Own w0 w' (g::(gp,PR2)::RR') ss)):Calls prog 84 #[.pointer (some ⟨gp,0,none⟩),pr] w fun x w'=>(x=.returned (.tuple #[.agg (EVT k 0 0 0 0 (.slice none 0 0) e),.bool true]))/\∃ RR',Q RR'/\Own w0 w' ((gp,PR2)::RR') ss:=by
 go_enter func84,ntmps84
 exact xau
theorem Nc (w:World):(zeroValue 137).run prog w=.ok (.agg (HS 0 0 0 0)) w:=by kernel_rfl
theorem OI (a V M n:Int):Aq prog 137 (HS a V M n).size:=ag rfl
theorem XL (a V M n:Int):∀ v ∈ HS a V M n,v.oneCell'=true:=Dp (cs:=[.int .i64 a,.int .i64 V,.int .i64 M,.int .i64 n]) rfl
theorem kJ (a V M n:Int):(HS a V M n).size=4:=rfl
theorem A1B (a V M n a' V' M' n':Int):(HS a V M n).size=(HS a' V' M' n').size:=rfl
theorem ML {o:Oper} {a:Act} {w:World} {x y:Operand} (ho:o.op=.build 76 #[(0,x),(1,y)]) {k n:Int} (hx:a.eval x=.int .u8 k) (hy:a.eval y=.int .i64 n):(execOp a.eval o).run prog w=.ok (.value (.agg (EVT k n 0 0 0 (.slice none 0 0) 0))) w :=
 Dq ho (by simp only [l_y,List.map_cons,List.map_nil,hx,hy];kernel_rfl)
theorem vX (gp:Nat) (a V M c a2 V2 M2:Int) (c0:0<=c) (c1:c<=255) (pr:Value) (pt ms ts cs ds er:A_) (RR:Rws) (w0 w:World) (ss:List Sl) (hm:Own w0 w ((gp,PR pt (HS a V M 0) ms ts cs ds er)::RR) ss) (Q:Rws->Prop) (CT:Hid (∀ W g,Own w0 W (g::(gp,PR pt (HS a V M 0) ms ts cs ds er)::RR) ss->Calls prog 124 #[.pointer (some ⟨gp,0,none⟩),pr,.int .i64 8] W fun x w'=>(x=.returned (.tuple #[.int .u32 c,.agg (EVT 0 0 0 0 0 (.slice none 0 0) 0),.bool true]))/\∃ RR',Q RR'/\Own w0 w' (g::(gp,PR pt (HS a V M 0) ms ts cs ds er)::RR') ss)) (CS:Hid (∀ w,Calls prog 98 #[.agg (HS a V M 0),.int .u8 c] w (RB w (.tuple #[.agg (HS a2 V2 M2 0),.bool false,.int .i64 0])))) (hz:PRz pt (HS a V M 0) ms ts cs ds er) :Calls prog 78 #[.pointer (some ⟨gp,0,none⟩),pr] w fun x w'=>(x=.returned (.tuple #[.agg (EVT 2 0 0 0 0 (.slice none 0 0) 0),.bool false]))/\∃ RR',Q RR'/\Own w0 w' ((gp,PR pt (HS a2 V2 M2 0) ms ts cs ds er)::RR') ss:=by
 have HZ:=h_ hz;have w1:IntKind.u8.wrap c=c:=IntWalk.u8_in _ (by omega);clear hz c0 c1;go_enter func78,ntmps78
 go_wp2_with (first
  |(go_at_call 124;have _t:=hm;refine (CT.out _ _ hm).mono ?_;clear _t hm CT;rintro x w ⟨rfl,RR2,hQ,hm⟩)
  |(go_at_call 98;refine cB (CS.out _) hm ?_;clear hm;intro w1 hm)
  |(with_reducible first|(refine wa 76 hm BX ?_;clear hm;intro w g hm)|(refine wa 137 hm Nc ?_;clear hm;intro w g9 hm))
  |(with_reducible refine gLd (t:=137) ?_;(first|(refine A8 rfl (ldp 2 hm rfl rfl rfl (Q5 HZ.out) (OI _ _ _ _) (Qa HZ.out)) ?_)|(refine A8 rfl (lda 0 hm rfl rfl rfl (OI _ _ _ _)) ?_)))
  |(with_reducible refine gSt (t:=137) ?_;(first|(refine Ad rfl (Aw 0 hm rfl rfl (Ac rfl) rfl (OI _ _ _ _) (A1B _ _ _ _ _ _ _ _) (XL _ _ _ _) ?_);clear hm;intro w hm;try simp only [puts,s2,List.set] at hm)|(refine Ad rfl (Aj 3 hm rfl rfl (Ac rfl) rfl (OI _ _ _ _) (by rw [Bg HZ.out,kJ];decide) (XL _ _ _ _) (Wp HZ.out rfl) ?_);clear hm;intro w hm;try simp only [puts,s2,List.set] at hm)))
  |(with_reducible refine wl 3 0 hm ?_)
  |(with_reducible refine gBu (t:=76) ?_;(refine A8 rfl (ML rfl rfl rfl) ?_))
  |(with_reducible (first|refine ws 76 0 hm ?_ (h1:=c_z (Ak _ _ _ _ _ rfl _))|refine ws 76 2 hm ?_ (h1:=c_z (Ak _ _ _ _ _ rfl _)));clear hm;intro w hm)
   )
 exact xa4
theorem dV (gp:Nat) (a V M c n:Int) (c0:0<=c) (c1:c<=255) (pr:Value) (pt ms ts cs ds er:A_) (RR:Rws) (w0 w:World) (ss:List Sl) (hm:Own w0 w ((gp,PR pt (HS a V M 0) ms ts cs ds er)::RR) ss) (Q:Rws->Prop) (CT:Hid (∀ W g,Own w0 W (g::(gp,PR pt (HS a V M 0) ms ts cs ds er)::RR) ss->Calls prog 124 #[.pointer (some ⟨gp,0,none⟩),pr,.int .i64 8] W fun x w'=>(x=.returned (.tuple #[.int .u32 c,.agg (EVT 0 0 0 0 0 (.slice none 0 0) 0),.bool true]))/\∃ RR',Q RR'/\Own w0 w' (g::(gp,PR pt (HS a V M 0) ms ts cs ds er)::RR') ss)) (CS:Hid (∀ w,Calls prog 98 #[.agg (HS a V M 0),.int .u8 c] w (RB w (.tuple #[.agg (HS 4 0 0 n),.bool true,.int .i64 0])))) (hz:PRz pt (HS a V M 0) ms ts cs ds er) :Calls prog 78 #[.pointer (some ⟨gp,0,none⟩),pr] w fun x w'=>(x=.returned (.tuple #[.agg (EVT 2 n 0 0 0 (.slice none 0 0) 0),.bool true]))/\∃ RR',Q RR'/\Own w0 w' ((gp,PR (PT 2) (HS 4 0 0 n) ms ts cs ds er)::RR') ss:=by
 have HZ:=h_ hz;have w1:IntKind.u8.wrap c=c:=IntWalk.u8_in _ (by omega);clear hz c0 c1;have HZ2:Hid (PRz pt (HS 4 0 0 n) ms ts cs ds er):=h_ (HZ.out.hs_ rfl);go_enter func78,ntmps78
 go_wp2_with (first
  |(go_at_call 124;have _t:=hm;refine (CT.out _ _ hm).mono ?_;clear _t hm CT;rintro x w ⟨rfl,RR2,hQ,hm⟩)
  |(go_at_call 98;refine cB (CS.out _) hm ?_;clear hm;intro w1 hm)
  |(go_at_call 79;refine cB (WW _) hm ?_;clear hm;intro w1 hm)
  |(with_reducible first|(refine wa 76 hm BX ?_;clear hm;intro w g hm)|(refine wa 137 hm Nc ?_;clear hm;intro w g9 hm))
  |(with_reducible refine gLd (t:=137) ?_;(first|(refine A8 rfl (ldp 2 hm rfl rfl rfl (Q5 HZ.out) (OI _ _ _ _) (Qa HZ.out)) ?_)|(refine A8 rfl (lda 0 hm rfl rfl rfl (OI _ _ _ _)) ?_)))
  |(with_reducible refine gSt (t:=137) ?_;(first|(refine Ad rfl (Aw 0 hm rfl rfl (Ac rfl) rfl (OI _ _ _ _) (A1B _ _ _ _ _ _ _ _) (XL _ _ _ _) ?_);clear hm;intro w hm;try simp only [puts,s2,List.set] at hm)|(refine Ad rfl (Aj 3 hm rfl rfl (Ac rfl) rfl (OI _ _ _ _) (by rw [Bg HZ.out,kJ];decide) (XL _ _ _ _) (Wp HZ.out rfl) ?_);clear hm;intro w hm;try simp only [puts,s2,List.set] at hm)))
  |(with_reducible refine wl 3 0 hm ?_)
  |(with_reducible refine gSt (t:=134) ?_;(refine Ad rfl (Aj 3 hm rfl rfl (Ac rfl) rfl (Cm _) (by rw [Bg HZ2.out];decide) (Ei _) (Eh HZ2.out rfl) ?_);clear hm;intro w hm;try simp only [puts,s2,List.set] at hm))
  |(with_reducible refine gBu (t:=76) ?_;(refine A8 rfl (ML rfl rfl rfl) ?_))
  |(with_reducible (first|refine ws 76 0 hm ?_ (h1:=c_z (Ak _ _ _ _ _ rfl _))|refine ws 76 2 hm ?_ (h1:=c_z (Ak _ _ _ _ _ rfl _)));clear hm;intro w hm)
   )
 exact xa4
theorem Own.A1F {w0 w:World} {p q r s:Nat × A_} {rs:Rws} {ss:List Sl} (h:Own w0 w (s::p::q::r::rs) ss):Own w0 w (p::q::r::s::rs) ss:=h.perm (List.perm_middle (l₁:=[p,q,r]))
theorem nG (gp:Nat) (a V M c e:Int) (c0:0<=c) (c1:c<=255) (pr:Value) (pt ms ts cs ds er:A_) (RR:Rws) (w0 w:World) (ss:List Sl) (hm:Own w0 w ((gp,PR pt (HS a V M 0) ms ts cs ds er)::RR) ss) (Q:Rws->Prop) (CT:Hid (∀ W g,Own w0 W (g::(gp,PR pt (HS a V M 0) ms ts cs ds er)::RR) ss->Calls prog 124 #[.pointer (some ⟨gp,0,none⟩),pr,.int .i64 8] W fun x w'=>(x=.returned (.tuple #[.int .u32 c,.agg (EVT 0 0 0 0 0 (.slice none 0 0) 0),.bool true]))/\∃ RR',Q RR'/\Own w0 w' (g::(gp,PR pt (HS a V M 0) ms ts cs ds er)::RR') ss)) (CS:Hid (∀ w,Calls prog 98 #[.agg (HS a V M 0),.int .u8 c] w (RB w (.tuple #[.agg (HS 0 0 0 0),.bool false,.int .i64 e])))) (hz:PRz pt (HS a V M 0) ms ts cs ds er) (he:e ≠ 0):Calls prog 78 #[.pointer (some ⟨gp,0,none⟩),pr] w fun x w'=>(x=.returned (.tuple #[.agg (EVT 8 0 0 0 0 (.slice none 0 0) e),.bool true]))/\∃ RR',Q RR'/\Own w0 w' ((gp,PR (PT 8) (HS a V M 0) ms ts cs ds (ER e))::RR') ss:=by
 have HZ:=h_ hz;have w1:IntKind.u8.wrap c=c:=IntWalk.u8_in _ (by omega);clear hz c0 c1;have CW:Hid (∀ {W} {g9 g7 g:Nat × A_} {RR2},Own w0 W (g9::g7::g::(gp,PR pt (HS a V M 0) ms ts cs ds er)::RR2) ss->Calls prog 125 #[.pointer (some ⟨gp,0,none⟩),.int .i64 e] W fun x w'=>(x=.returned (.tuple #[.agg (EVT 8 0 0 0 0 (.slice none 0 0) e),.bool true]))/\Own w0 w' (g9::g7::g::(gp,PR (PT 8) (HS a V M 0) ms ts cs ds (ER e))::RR2) ss):=h_ fun h=>(Gf gp pt (HS a V M 0) ms ts cs ds er e w0 _ _ ss (h.front 3 rfl) HZ.out).mono fun x w' h=>⟨h.1,h.2.A1F⟩;have q1:(e != 0)=true:=by simpa using he
 have q2:(e == 0)=false:=by simpa using he
 clear he;go_enter func78,ntmps78
 go_wp2_with (first
  |(go_at_call 124;have _t:=hm;refine (CT.out _ _ hm).mono ?_;clear _t hm CT;rintro x w ⟨rfl,RR2,hQ,hm⟩)
  |(go_at_call 98;refine cB (CS.out _) hm ?_;clear hm;intro w1 hm)
  |(go_at_call 125;have _t:=hm;refine (CW.out hm).mono ?_;clear _t hm;rintro x w ⟨rfl,hm⟩)
  |(with_reducible first|(refine wa 76 hm BX ?_;clear hm;intro w g hm)|(refine wa 137 hm Nc ?_;clear hm;intro w g9 hm))
  |(with_reducible refine gLd (t:=137) ?_;((refine A8 rfl (ldp 2 hm rfl rfl rfl (Q5 HZ.out) (OI _ _ _ _) (Qa HZ.out)) ?_)))
  |(with_reducible refine ws 137 0 hm ?_;clear hm;intro w hm)
  |(with_reducible (first|refine ws 76 0 hm ?_ (h1:=c_z (Ak _ _ _ _ _ rfl _))|refine ws 76 2 hm ?_ (h1:=c_z (Ak _ _ _ _ _ rfl _)));clear hm;intro w hm)
   )
 exact xa4
def turn (was now way:Int):Bool:=if way=0 then decide (was=now) else if way=1 then decide (was < now) else decide (now < was)
theorem aO (x y z:Int) (w:World):Calls prog 212 #[.int .i64 x,.int .i64 y,.int .i64 z] w fun e w'=>(e=.returned (.bool (turn x y z)))/\w'=w:=by
 rw [turn];by_cases h0:z=0
 ·subst h0;rw [if_pos rfl];cases hq:decide (x=y)
  all_goals
   have hq':(x == y)=decide (x=y):=rfl;rw [hq] at hq';clear hq;exact xhx
 rw [if_neg h0];have q0:(z == 0)=false:=by simpa using h0
 by_cases h1:z=1
 ·subst h1;rw [if_pos rfl];clear h0 q0;cases hq:decide (x < y)
  all_goals
   exact xhx
 rw [if_neg h1];have q1:(z == 1)=false:=by simpa using h1
 clear h0 h1;cases hq:decide (y < x)
 all_goals
  exact xhx
def Known (l:I_) (s:Int):Prop:=∀ k:Nat,k < 258->0<=gi l k/\gi l k<=15/\(s<=k->gi l k=0)
theorem Oa (l:I_) (s b n d:Int) (w0:World) (hl:l.length=258) (hk:Known l s):Calls prog 211 #[.agg (TS l s b n d)] w0 (RB w0 (.bool true)):=by
 have HL:=h_ hl;have HK:=h_ hk;clear hk hl;go_enter func211,ntmps211;have hm:=Own.nil w0
 go_wp2_with (first
 |(with_reducible refine wb hm ?_;clear hm;intro w g hm)
 |(refine A8 rfl (ldp 0 hm rfl rfl rfl (Jv HL.out) (F5 HL.out) (L9 HL.out)) ?_))
 go_loopw [7] (fun u wr=>∃ k:Nat,k<=258/\u=.int .i64 k/\Own w0 wr [(g,TS l s b n d)] []) (fun u _=>258 - (intOf u).toNat)
 case atStart=>exact ⟨0,by omega,rfl,hm⟩
 case round =>
  clear hm;obtain ⟨k,hk,rfl,hm⟩:=hrel;by_cases hlt:k < 258
  ·have hg:(J .u8 l)[k]?=some (.int .u8 (gi l k)):=XC .u8 l k (by rw [HL.out];exact hlt);obtain ⟨hx0,hx1,hx2⟩:=HK.out k hlt;have q1:decide (15 < gi l k)=false:=d_f;by_cases hs:s<=k
   ·have q2:decide (s<=(k:Int))=true:=decide_eq_true hs;rw [hx2 hs] at hg;clear hx0 hx1 hx2 q1 hs
    go_wp2_with (first
   |(refine A8 rfl (DZ rfl rfl rfl underlying139 FV hlt hg) ?_)
   |(refine A8 rfl (ld 0 hm rfl rfl rfl (ot rfl) (CJ HL.out)) ?_)
   |(refine A8 rfl (ld 0 hm rfl rfl rfl (ot rfl) (Cb HL.out)) ?_)
   |(refine A8 rfl (ld 0 hm rfl rfl rfl (ot rfl) (CQ HL.out)) ?_)
   |(refine A8 rfl (ld 0 hm rfl rfl rfl (ot rfl) (E8 HL.out)) ?_)
   |(refine A8 rfl (lda 0 hm rfl rfl rfl (Bq HL.out)) ?_)
   |(refine A8 rfl (ldp 0 hm rfl rfl rfl (Jv HL.out) (F5 HL.out) (L9 HL.out)) ?_))
    exact xeh
   ·have q2:decide (s<=(k:Int))=false:=decide_eq_false hs;clear hx0 hx1 hx2 hs;generalize gi l k=x at *
    go_wp2_with (first
   |(refine A8 rfl (DZ rfl rfl rfl underlying139 FV hlt hg) ?_)
   |(refine A8 rfl (ld 0 hm rfl rfl rfl (ot rfl) (CJ HL.out)) ?_)
   |(refine A8 rfl (ld 0 hm rfl rfl rfl (ot rfl) (Cb HL.out)) ?_)
   |(refine A8 rfl (ld 0 hm rfl rfl rfl (ot rfl) (CQ HL.out)) ?_)
   |(refine A8 rfl (ld 0 hm rfl rfl rfl (ot rfl) (E8 HL.out)) ?_)
   |(refine A8 rfl (lda 0 hm rfl rfl rfl (Bq HL.out)) ?_)
   |(refine A8 rfl (ldp 0 hm rfl rfl rfl (Jv HL.out) (F5 HL.out) (L9 HL.out)) ?_))
    exact xeh
  ·obtain rfl:k=258:=by omega
   go_wp2;go_ret;exact xg6
structure TT where
 l:I_
 s:Int
 b:Int
 n:Int
 d:Int
def TT.v (t:TT):A_:=TS t.l t.s t.b t.n t.d
def TT.next (t:TT) (bit:Int):TT × Bool :=
 if t.b < 4 then (⟨t.l,t.s,t.b+1,2 * t.n+bit,t.d⟩,true)
 else if t.b=4 then if bit=0 then (⟨t.l.set t.s.toNat t.n,t.s+1,t.b,t.n,0⟩,decide (t.s+1 < 258) || JL (t.l.set t.s.toNat t.n)) else (⟨t.l,t.s,5,t.n,t.d⟩,true)
 else if bit=0 then (⟨t.l,t.s,4,t.n+1,1⟩,decide (t.d ≠ 2/\t.n < 15)) else (⟨t.l,t.s,4,t.n - 1,2⟩,decide (t.d ≠ 1/\0 < t.n))
structure TT.ok (t:TT):Prop where
 len:t.l.length=258
 sym:0<=t.s/\t.s < 258
 bit:0<=t.b/\t.b<=5
 now:0<=t.n/\t.n<=15
 way:0<=t.d/\t.d<=2
 known:Known t.l t.s
 first:t.b < 4->t.s=0/\t.d=0/\t.l=Hf/\t.n < 2 ^ t.b.toNat
 zero:t.s=0->t.d=1->0 < t.n
 zero2:t.s=0->t.d=2->t.n < 15
 turn:0 < t.s->turn (gi t.l (t.s.toNat - 1)) t.n t.d=true
theorem sJ (a n b m:Nat) (hz:m=0) (hn:1<=n) (w:World):Calls prog 163 #[.agg (SP a n),.agg (SP b m)] w (RB w (.bool true)):=by
 subst hz;have q0:((n:Int) == 0)=false:=by simp;omega
 clear hn;exact xhp
theorem sK (a n b m:Nat) (hz:1<=m) (hn:1<=n) (ha:a+n<=b) (hb:b<=1048576) (w:World):Calls prog 163 #[.agg (SP a n),.agg (SP b m)] w (RB w (.bool true)):=by
 have q0:((n:Int) == 0)=false:=by simp;omega
 have q1:((m:Int) == 0)=false:=by simp;omega
 have w1:IntKind.i64.wrap ((a:Int)+n)=(a:Int)+n:=i_6;have q2:decide ((a:Int)+n<=b)=true:=d_t;clear hn hz ha hb;exact xhp
theorem lN (a n b m:Nat) (hn:1<=n) (ha:a+n<=b) (hb:b<=1048576) (w:World):Calls prog 163 #[.agg (SP a n),.agg (SP b m)] w (RB w (.bool true)):=by
 by_cases h:m=0
 ·exact sJ a n b m h hn w
 ·exact sK a n b m (by omega) hn ha hb w
theorem ri {k:IntKind} {a b:Int} (h:a=b):Ending.returned (.int k a)=.returned (.int k b):=by rw [h]
theorem sF (n d q:Nat) (hqd:q=n / d) (h1:n<=65536) (h2:1<=d) (h3:d<=65536) (w:World):Calls prog 164 #[.int .i64 n,.int .i64 d] w fun x w'=>(x=.returned (.int .i64 ((1024 * q:Nat):Int)))/\w'=w:=by
 have hq:q<=n:=by rw [hqd];exact Nat.div_le_self n d
 have e1:(n:Int).tdiv d=(q:Int):=by rw [hqd];rfl
 have e2:(n:Int) / d=(q:Int):=by rw [hqd];rfl
 clear hqd;have w1:wi n 0 65536=true:=Eu (by omega) (by omega);have w2:wi d 1 65536=true:=Eu (by omega) (by omega);have q0:((d:Int) == 0)=false:=by simp;omega
 have q0b:(d:Int) ≠ 0:=by omega
 have w3:IntKind.i64.wrap (q:Int)=(q:Int):=i_6;have w4:IntKind.i64.wrap ((q:Int) * 1024)=((1024 * q:Nat):Int):=by rw [IntWalk.i64_in _ (by omega)];push_cast;omega
 go_enter func164,ntmps164
 go_wp2_with (first
  |(go_at_call 119;refine (QK _ _ _ _).mono ?_;rintro e w1 ⟨rfl,rfl⟩))
 go_ret;exact ⟨ri (by push_cast;omega),rfl⟩
end Go.Proofs.YtkpbhdhkdonghaaGreat
