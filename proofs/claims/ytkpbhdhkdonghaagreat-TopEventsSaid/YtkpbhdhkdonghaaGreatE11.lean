/-
  Part 11 of the proof.
-/
import Derived.Deep.AppendSrc
import Derived.Laws.BitsLemmas
import Derived.Test.YtkpbhdhkdonghaaGreatE08
import Derived.Test.YtkpbhdhkdonghaaGreatE10
set_option linter.all false
namespace Go.Proofs.YtkpbhdhkdonghaaGreat
open Go Go.RowKit
variable {cs:Array Value} {news xs:List Value} {c e g k n s t:Nat} {nr r:Nat × Array Value} {x y:Operand} {rt:Rws} {i:TypeInfo} {sv z:Value}
theorem Own.perm {w0 w:World} {rs:Rws} {ss:List Sl} (h:Own w0 w rs ss) (hp:rt.Perm rs):Own w0 w rt ss :=
 ⟨⟨h.mem.below,fun p hp'=>h.mem.own p (hp.mem_iff.1 hp'),fun p hp'=>h.mem.rows p (hp.mem_iff.1 hp'),(hp.map _).nodup_iff.2 h.mem.apart⟩,h.sl,((hp.map Prod.fst).append_left _).nodup_iff.2 h.apart⟩
theorem Own.up {w0 w:World} {ss:List Sl} (L:Rws) {X rs:Rws} (h:Own w0 w (r::(L++(X++rs))) ss):Own w0 w (r::(X++(L++rs))) ss :=
 h.perm (List.Perm.cons r (by rw [<- List.append_assoc,<- List.append_assoc];exact List.perm_append_comm.append_right rs))
def Lies (s:Nat) (X:Rws) (v:Value) (n:Nat) (xs:List Value):Prop:=xs.length=n * s/\((v=.slice none 0 0/\xs=[]/\n=0/\X=[])\/∃ g p c cells,X=[(g,cells)]/\v=.slice (some ⟨g,p,none⟩) n c/\n<=c/\p+c * s<=cells.size/\∀ j,j < xs.length->cells[p+j]?=xs[j]?)
def From (s:Nat) (w:World) (v:Value) (k:Nat) (news:List Value):Prop:=news.length=k * s/\((v=.slice none 0 0/\k=0/\news=[])\/∃ ad c,v=.slice (some ad) k c/\(∀ j u,news[j]?=some u->w.cell? (ad.add j)=some u))
theorem From.tK {w:World} {v:Value} (h:Src w v news):From 1 w v news.length news:=by
 refine ⟨by omega,?_⟩
 rcases h with ⟨rfl,rfl⟩|⟨ad,c,rfl,hc⟩
 ·exact .inl ⟨rfl,rfl,rfl⟩
 ·exact .inr ⟨ad,c,rfl,hc⟩
theorem From.Pm {w:World} (h:AA w g cs) (off:Nat) (hn:news.length=k * s) (hc:∀ j u,news[j]?=some u->cs[off+j]?=some u):From s w (.slice (some ⟨g,off,none⟩) k c) k news :=
 ⟨hn,.inr ⟨_,_,rfl,fun j u hj=>by rw [Addr.add_lit,h.cell];exact hc j u hj⟩⟩
theorem TA:∀ (vs:List Value) (cs:Array Value) (o i:Nat),o+vs.length<=cs.size->(J4 cs o vs)[i]?=if o<=i/\i < o+vs.length then vs[i - o]? else cs[i]?
|[],cs,o,i,_=>by simp [J4];omega
|v::vs,cs,o,i,h=>by
  simp only [List.length_cons] at h ⊢
  rw [J4,TA vs _ (o+1) i (by simp;omega)]
  by_cases h1:o+1<=i/\i < o+1+vs.length
  ·rw [if_pos h1,if_pos (by omega),show i - o=(i - (o+1))+1 by omega,List.getElem?_cons_succ]
  ·rw [if_neg h1]
   by_cases h2:i=o
   ·subst h2
    rw [if_pos (by omega),Nat.sub_self,List.getElem?_cons_zero,Array.getElem?_setIfInBounds_self_of_lt (by omega)]
   ·rw [if_neg (by omega),Array.getElem?_setIfInBounds_ne (by omega)]
theorem Qh:∀ (vs:List Value) (cs:Array Value) (o:Nat),(J4 cs o vs).size=cs.size
|[],_,_=>rfl
|v::vs,cs,o=>by rw [J4,Qh vs];simp
structure OW (P:Program) (t e s bytes:Nat) (i:TypeInfo) (z:Value):Prop where
 under:P.underlying t=some (.slice e)
 info:P.info? e=some i
 zero:i.zero=some z
 size:i.size=s
 zs:z.cells.size=s
 bytes:i.bytes=bytes
theorem OW.ex {P:Program} {bytes:Nat} (hu:P.underlying t=some (.slice e)) (h:(P.info? e).map (fun i=>(i.zero,i.size,i.bytes))=some (some z,s,bytes)) (hc:z.cells.size=s):∃ i,OW P t e s bytes i z:=by
 cases hi:P.info? e with
|none=>rw [hi] at h;cases h
|some i =>
  rw [hi] at h
  simp only [Option.map_some,Option.some.injEq,Prod.mk.injEq] at h
  exact ⟨i,hu,hi,h.1,h.2.1,hc,h.2.2⟩
section
variable {P:Program} {w0 w:World} {A X rs:Rws} {ss:List Sl} {o:Oper} {a:Act} {K:Value->World->Prop}
theorem Own.grow (h:Own w0 w (nr::(A++(X++rs))) ss):Own w0 w (A++([nr]++rs)) ss:=by
 have h1:Own w0 w (nr::(A++rs)) ss:=h.sub (List.Sublist.cons_cons nr (List.Sublist.append (List.Sublist.refl A) (List.sublist_append_right X rs))) (List.Sublist.refl _)
 exact h1.perm List.perm_middle
theorem GR {bytes:Nat} (hm:Own w0 w (A++(X++rs)) ss) (ho:o.op=.call { callee:=.builtin .append,args:=#[x,y],argTypes:=#[t,t] }) (he:OW P t e s bytes i z)
  {v:Value} (hx:a.eval x=v) (hX:Lies s X v n xs) (hy:a.eval y=sv) (hs:∀ W,Own w0 W (A++(X++rs)) ss->From s W sv k news) (h1:∀ u ∈ news,u.oneCell'=true) (hb:(n+k) * bytes<=140737488355328) (h63:n+k<=281474976710656) (hs0:0 < s)
  (h:∀ X' v' w',Lies s X' v' (n+k) (xs++news)->Own w0 w' (A++(X'++rs)) ss->K v' w'):Eff P o a w K:=by
 have hF:=hs w hm
 have hFD:=hs w.drew (by exact hm.drawn _)
 have hlen:(xs++news).length=(n+k) * s:=by rw [List.length_append,hX.1,hF.1,Nat.add_mul]
 suffices hh:∃ v' w',(Builtin.append_ #[t,t] o.type #[v,sv]).run P w=.ok v' w'/\K v' w' by
  obtain ⟨v',w',hr,hK⟩:=hh
  refine Eff.val (v:=v') (w':=w') ?_ hK
  unfold execOp
  simp only [ho,resolve,invoke,builtin,Sem.run_bind,Sem.run_pure,Result.andThen_ok,List.map_toArray,List.map_cons,List.map_nil,hx,hy,hr]
 have hsrc:∀ j:Unit,Go.Src P i.size t sv k news w:=fun _=>by
  rcases hF.2 with ⟨rfl,rfl,rfl⟩|⟨ad,c,rfl,hc⟩
  ·exact Go.Src.ofNil w he.under 0
  ·exact Go.Src.ofSlice w he.under ad k c news (by rw [he.size];exact hF.1) hc h1
 have grow:∀ (base:Option Addr) (sCap:Nat),sCap < n+k->(Builtin.firstCells i.size n (.slice base n sCap)).run P w.drew=.ok xs.toArray w.drew->v=.slice base n sCap->∃ v' w',(Builtin.append_ #[t,t] o.type #[v,sv]).run P w=.ok v' w'/\K v' w':=by
  intro base sCap hg hold hv
  have hr:=run_append_grow_src w t t o.type e i z he.under he.info he.zero base n sCap xs hold sv k news (hsrc ()) hg (by omega) (growslice_fits hg (by rw [he.bytes];exact hb))
  rw [hv]
  refine ⟨_,_,hr,?_⟩
  have hge:=grownCap_ge w (n+k) sCap e
  refine h [(w.heap.size,(xs++news).toArray++Builtin.zeroCells z.cells (grownCap w (n+k) sCap e - (n+k)))] _ _ ⟨hlen,.inr ⟨_,0,_,_,rfl,rfl,hge,?_,?_⟩⟩ ?_
  ·rw [Nat.zero_add,Array.size_append,size_zeroCells,he.zs,List.size_toArray,hlen,<- Nat.add_mul]
   exact Nat.le_of_eq (by congr 1;omega)
  ·intro j hj
   rw [Nat.zero_add,Array.getElem?_append_left (by simpa using hj)]
   simp
  ·exact Own.grow ((hm.drawn (w.drawn+1)).alloc _ e)
 rcases hX.2 with ⟨rfl,rfl,rfl,rfl⟩|⟨g,p,c,cells,rfl,rfl,hnc,hsz,hcells⟩
 ·by_cases hk:k=0
  ·subst hk
   have hn0:news=[]:=by have:=hF.1;rw [Nat.zero_mul] at this;exact List.length_eq_zero_iff.1 this
   subst hn0
   refine ⟨.slice none 0 0,w,?_,h [] _ _ ⟨by simp,.inl ⟨rfl,rfl,rfl,rfl⟩⟩ hm⟩
   have hS:=hsrc ()
   rcases hS.kind with ⟨e',hk⟩|hk<;>simp [Builtin.append_,run_underlying he.under,run_underlying hk,sizeOf,typeInfo,he.info,hS.len,hS.cells]
  ·exact grow none 0 (by omega) (by simpa using run_firstCells_none (P:=P) w.drew i.size 0 0 0) rfl
 ·by_cases hr:n+k<=c
  ·have hi:(A++([(g,cells)]++rs))[A.length]?=some (g,cells):=by simp
   have hrow:=hm.row _ hi
   have hcs:c * s=n * s+(c - n) * s:=by rw [<- Nat.add_mul];congr 1;omega
   have hks:k * s<=(c - n) * s:=Nat.mul_le_mul_right s (by omega)
   have hfit:p+n * s+news.length<=cells.size:=by rw [hF.1];omega
   have hrun:=run_append_room_src w t t o.type e i he.under he.info g p n c sv k news (hsrc ()) hr (fun j hj=>by rw [he.size,hrow.cell];simp;omega) (fun j _=>hrow.free _)
   refine ⟨_,_,hrun,?_⟩
   have hset:=Own.setCells A.length news (p+n * i.size) w _ cells hm hi
   have e1:(A++([(g,cells)]++rs)).set A.length (g,J4 cells (p+n * i.size) news)=A++([(g,J4 cells (p+n * i.size) news)]++rs):=by simp
   rw [e1] at hset
   refine h _ _ _ ⟨hlen,.inr ⟨g,p,c,_,rfl,rfl,hr,?_,?_⟩⟩ hset
   ·rw [Qh];exact hsz
   ·intro j hj
    rw [he.size,TA news cells _ _ hfit]
    rw [List.length_append] at hj
    by_cases hjx:j < xs.length
    ·rw [if_neg (by rw [<- hX.1];omega),hcells j hjx,List.getElem?_append_left hjx]
    ·rw [if_pos (by rw [<- hX.1];omega),List.getElem?_append_right (by omega)]
     congr 1
     rw [<- hX.1];omega
  ·refine grow _ c (by omega) ?_ rfl
   refine run_firstCells_some (P:=P) w.drew i.size n _ n c xs (by rw [he.size];exact hX.1) ?_
   intro j u hj
   have hi:(A++([(g,cells)]++rs))[A.length]?=some (g,cells):=by simp
   have hrow:AA w.drew g cells:=Own.row (hm.drawn (w.drawn+1)) _ hi
   have hjl:=(List.getElem?_eq_some_iff.1 hj).1
   rw [Addr.add_lit,hrow.cell,hcells j hjl]
   exact hj
end
variable {zz:Int} {q:IntKind} {l:List Int} {news xs:List Value} {c e g h j k n p s t:Nat} {x y:Operand} {ad:Option Addr} {A:Rws} {i:TypeInfo} {u z:Value} {w':World}
theorem Lies.nil (s:Nat):Lies s [] (.slice none 0 0) 0 []:=⟨by simp,.inl ⟨rfl,rfl,rfl,rfl⟩⟩
theorem Lies.shape {X:Rws} {v:Value} (h:Lies s X v n xs):∃ ad c,v=.slice ad n c:=by
 rcases h.2 with ⟨rfl,_,rfl,_⟩|⟨g,p,c,cells,_,rfl,_⟩
 ·exact ⟨_,_,rfl⟩
 ·exact ⟨_,_,rfl⟩
theorem Lies.pos {X:Rws} {v:Value} (h:Lies s X v n xs) (hn:0 < n):∃ g p c cells,X=[(g,cells)]/\v=.slice (some ⟨g,p,none⟩) n c/\n<=c/\p+c * s<=cells.size/\xs.length=n * s/\∀ j,j < xs.length->cells[p+j]?=xs[j]?:=by
 rcases h.2 with ⟨rfl,_,rfl,_⟩|⟨g,p,c,cells,h1,h2,h3,h4,h5⟩
 ·omega
 ·exact ⟨g,p,c,cells,h1,h2,h3,h4,h.1,h5⟩
theorem Lies.Pm {cells:Array Value} (h1:xs.length=n * s) (h2:n<=c) (h3:p+c * s<=cells.size) (h4:∀ j,j < xs.length->cells[p+j]?=xs[j]?):Lies s [(g,cells)] (.slice (some ⟨g,p,none⟩) n c) n xs :=
 ⟨h1,.inr ⟨g,p,c,cells,rfl,rfl,h2,h3,h4⟩⟩
theorem Lies.whole (h1:xs.length=n * s):Lies s [(g,xs.toArray)] (.slice (some ⟨g,0,none⟩) n n) n xs :=
 Lies.Pm h1 (Nat.le_refl _) (by simp [h1]) (fun j hj=>by simp)
theorem Lies.from {w w0:World} {X rs:Rws} {ss:List Sl} {v:Value} (h:Lies s X v n xs) (hm:Own w0 w (A++(X++rs)) ss):From s w v n xs:=by
 refine ⟨h.1,?_⟩
 rcases h.2 with ⟨rfl,rfl,rfl,rfl⟩|⟨g,p,c,cells,rfl,rfl,hc,hs,hcells⟩
 ·exact .inl ⟨rfl,rfl,rfl⟩
 ·refine .inr ⟨_,_,rfl,fun j u hj=>?_⟩
  have hr:=hm.row (i:=A.length) (g:=g) (cs:=cells) (by simp)
  have hl:=(List.getElem?_eq_some_iff.1 hj).1
  rw [Addr.add_lit,hr.cell,hcells j hl,hj]
theorem From.src {w:World} {v:Value} (h:From 1 w v k news):Src w v news:=by
 have hk:news.length=k:=by have:=h.1;omega
 rcases h.2 with ⟨rfl,_,rfl⟩|⟨ad,c,rfl,hc⟩
 ·exact .inl ⟨rfl,rfl⟩
 ·exact .inr ⟨ad,c,by rw [hk],hc⟩
theorem Own.A1J {w0 w:World} {rs:Rws} {ss:List Sl} {v:Value} {e:TypeId} (h:Own w0 w rs ((v,e,xs)::ss)) (hq:e < Ey:=by first|assumption|(simp [Ey];done)):∃ X,Lies 1 X v xs.length xs/\Own w0 w (X++rs) ss:=by
 have hs:=h.get 0 rfl hq
 rcases hs.2 with ⟨hv,h0⟩|⟨g,cap,cur,hv,hb,hh,hn,hcap,hsz,ht⟩
 ·simp only at hv h0
  have hx:xs=[]:=List.length_eq_zero_iff.1 h0
  subst hx
  exact ⟨[],⟨by simp,.inl ⟨hv,rfl,rfl,rfl⟩⟩,h.J9⟩
 ·simp only at hv hb hh hn hcap hsz ht
  refine ⟨[(g,cur)],⟨by simp,.inr ⟨g,0,cap,cur,rfl,hv,hn,by omega,fun j hj=>?_⟩⟩,?_⟩
  ·rw [Nat.mul_one] at ht
   rw [Nat.zero_add,<- ht,List.getElem?_take_of_lt (by omega)]
   simp
  ·have hd:=h.J9
   obtain ⟨h1,h2,h3⟩:=List.nodup_append.1 h.apart
   have hvb:v.ownBlock=some g:=by rw [hv];rfl
   rw [List.filterMap_cons,hvb] at h1 h3
   rw [List.nodup_cons] at h1
   have hg:g ∉ rs.map (·.1):=fun hm=>h3 g (by simp) g hm rfl
   refine ⟨⟨hd.mem.below,?_,?_,?_⟩,hd.sl,?_⟩
   ·intro p hp
    rcases List.mem_cons.1 hp with rfl|hp
    ·exact hb
    ·exact hd.mem.own p hp
   ·intro p hp
    rcases List.mem_cons.1 hp with rfl|hp
    ·exact ⟨e,hh⟩
    ·exact hd.mem.rows p hp
   ·rw [List.singleton_append,List.map_cons,List.nodup_cons];exact ⟨hg,hd.mem.apart⟩
   ·refine List.nodup_append.2 ⟨h1.2,by rw [List.singleton_append,List.map_cons,List.nodup_cons];exact ⟨hg,h2⟩,?_⟩
    intro a ha b hb2 hab
    subst hab
    rw [List.singleton_append,List.map_cons] at hb2
    rcases List.mem_cons.1 hb2 with rfl|hb2
    ·exact h1.1 ha
    ·exact h3 a (List.mem_cons_of_mem _ ha) a hb2 rfl
theorem Own.ofB {w0 w:World} {rs:Rws} {ss:List Sl} (h:Own w0 w rs ss) {x:Ending} (hb:OwnB w l x w'):∃ X v,x=.returned v/\Lies 1 X v l.length (vs .u8 l)/\Own w0 w' (X++rs) ss:=by
 obtain ⟨⟨v,rfl,ho⟩,hb⟩:=hb
 have ho':w'.ownsRow w.heap.size 5 1 v (vs .u8 l).length (vs .u8 l):=by rw [Ai];exact ho
 obtain ⟨X,hX,hm⟩:=(h.fG hb ho').A1J
 rw [Ai] at hX
 exact ⟨X,v,rfl,hX,hm⟩
section
variable {P:Program} {w w0:World} {o:Oper} {a:Act} {rs:Rws} {ss:List Sl}
theorem ix {bytes:Nat} (ho:o.op=.indexAddr t x y) (he:OW P t e s bytes i z) (hx:a.eval x=.slice (some ⟨g,p,none⟩) n c) (hy:a.eval y=.int q zz) (hz:zz=k) (hk:k < n) :
  (execOp a.eval o).run P w=.ok (.value (.pointer (some ⟨g,p+k * s,none⟩))) w:=by
 subst hz
 unfold execOp
 simp only [ho,hx,hy,Instr.indexAt,asIntOf,Sem.run_bind,Sem.run_pure,Result.andThen_ok,run_underlying he.under]
 simp [show (k:Int) < (n:Int) by omega,sizeOf,typeInfo,he.info,he.size,Addr.add_lit]
theorem ix1 {bytes:Nat} (ho:o.op=.indexAddr t x y) (he:OW P t e 1 bytes i z) (hx:a.eval x=.slice (some ⟨g,p,none⟩) n c) (hy:a.eval y=.int q zz) (hz:zz=k) (hk:k < n) :
  (execOp a.eval o).run P w=.ok (.value (.pointer (some ⟨g,p+k,none⟩))) w:=by
 have:=ix (P:=P) (w:=w) ho he hx hy hz hk
 rwa [Nat.mul_one] at this
theorem Lies.sub {X:Rws} (hX:Lies s X (.slice ad n c) n xs) {l:Nat} (h1:l<=h) (h2:h<=n):Lies s X (.slice (if c=l then ad else ad.map (·.add (l * s))) (h - l) (c - l)) (h - l) ((xs.take (h * s)).drop (l * s)):=by
 have hlen:((xs.take (h * s)).drop (l * s)).length=(h - l) * s:=by
  rw [List.length_drop,List.length_take,hX.1,Nat.min_eq_left (Nat.mul_le_mul_right s h2),Nat.sub_mul]
 refine ⟨hlen,?_⟩
 rcases hX.2 with ⟨e,rfl,rfl,rfl⟩|⟨g,p,c',cells,rfl,e,hc,hs,hcells⟩
 ·cases e
  obtain rfl:l=0:=by omega
  obtain rfl:h=0:=by omega
  exact .inl ⟨by simp,by simp,rfl,rfl⟩
 ·cases e
  by_cases hcl:c=l
  ·refine .inr ⟨g,p,0,cells,rfl,by rw [if_pos hcl,hcl,Nat.sub_self],by omega,by omega,fun j hj=>?_⟩
   rw [hlen] at hj
   have:h - l=0:=by omega
   rw [this,Nat.zero_mul] at hj
   omega
  ·refine .inr ⟨g,p+l * s,c - l,cells,rfl,by rw [if_neg hcl,Option.map_some,Addr.add_lit],by omega,?_,fun j hj=>?_⟩
   ·have:l * s+(c - l) * s=c * s:=by rw [<- Nat.add_mul];congr 1;omega
    omega
   ·rw [hlen] at hj
    have e1:(h - l) * s=h * s - l * s:=Nat.sub_mul h l s
    have e2:h * s<=n * s:=Nat.mul_le_mul_right s h2
    have hx1:=hX.1
    rw [Nat.add_assoc,hcells (l * s+j) (by omega),List.getElem?_drop,List.getElem?_take_of_lt (by omega)]
theorem Lies.put {cells:Array Value} (hX:Lies s [(g,cells)] (.slice (some ⟨g,p,none⟩) n c) n xs) (hj:j < xs.length) (u:Value):p+j < cells.size/\Lies s [(g,cells.setIfInBounds (p+j) u)] (.slice (some ⟨g,p,none⟩) n c) n (xs.set j u):=by
 rcases hX.2 with ⟨e,_⟩|⟨g',p',c',cells',e1,e2,hc,hs,hcells⟩
 ·cases e
 ·cases e1;cases e2
  have hlt:p+j < cells.size:=by
   have:n * s<=c * s:=Nat.mul_le_mul_right s hc
   have:=hX.1
   omega
  refine ⟨hlt,by rw [List.length_set];exact hX.1,.inr ⟨g,p,c,_,rfl,rfl,hc,by rw [Array.size_setIfInBounds];exact hs,fun k hk=>?_⟩⟩
  rw [List.length_set] at hk
  by_cases hjk:j=k
  ·subst hjk
   rw [Array.getElem?_setIfInBounds_self_of_lt hlt,List.getElem?_set_self hj]
  ·rw [Array.getElem?_setIfInBounds_ne (by omega),List.getElem?_set_ne hjk]
   exact hcells k hk
theorem Lies.cell {cells:Array Value} (hX:Lies s [(g,cells)] (.slice (some ⟨g,p,none⟩) n c) n xs) (hj:xs[j]?=some u):cells[p+j]?=some u:=by
 rcases hX.2 with ⟨e,_⟩|⟨g',p',c',cells',e1,e2,hc,hs,hcells⟩
 ·cases e
 ·cases e1;cases e2
  rw [hcells j (List.getElem?_eq_some_iff.1 hj).1,hj]
end
theorem aK (k:IntKind) (l:List Int) (i:Nat) (x:Int):(vs k l).set i (.int k x)=vs k (l.set i x):=by simp [vs,List.map_set]
theorem qy (k:IntKind) (l m:List Int):vs k l++vs k m=vs k (l++m):=by simp [vs]
theorem yZ (k:IntKind) (x:Int):[Value.int k x]=vs k [x]:=rfl
theorem nP:∃ i,OW Tryz.prog 22 5 1 1 i (.int .u8 0):=OW.ex Tryz.underlying22 (by kernel_rfl) rfl
theorem wM:∃ i,OW Tryz.prog 124 3 1 8 i (.int .i64 0):=OW.ex Tryz.underlying124 (by kernel_rfl) rfl
set_option maxHeartbeats 1000000
set_option maxRecDepth 100000
def rvk (l:List Int) (k:Nat):List Int:=(List.range l.length).map fun i=>if i < k\/l.length - k<=i then gi l (l.length - 1 - i) else gi l i
theorem F7 (l:List Int) (k:Nat):(rvk l k).length=l.length:=by simp [rvk]
theorem PG (l:List Int) (k i:Nat) (h:i < l.length):gi (rvk l k) i=if i < k\/l.length - k<=i then gi l (l.length - 1 - i) else gi l i:=by simp [gi,rvk,h]
theorem Xc {l m:List Int} (h:l.length=m.length) (g:∀ i,i < l.length->gi l i=gi m i):l=m:=by
 apply List.ext_getElem h
 intro i h1 h2
 have:=g i h1
 rwa [BZ l i h1,BZ m i h2] at this
theorem wo (l:List Int) (i j:Nat) (x:Int) (h:i < l.length):gi (l.set i x) j=if i=j then x else gi l j:=by
 by_cases hij:i=j
 ·subst hij;simp [gi,h]
 ·simp [gi,hij]
theorem Rw (l:List Int):rvk l 0=l:=Xc (F7 l 0) (fun i hi=>by
 rw [F7] at hi
 rw [PG l 0 i hi,if_neg (by omega)])
theorem rY (l:List Int) (k:Nat) (h:k < l.length - 1 - k):((rvk l k).set k (gi (rvk l k) (l.length - 1 - k))).set (l.length - 1 - k) (gi (rvk l k) k)=rvk l (k+1):=by
 refine Xc (by simp [F7]) (fun i hi=>?_)
 rw [List.length_set,List.length_set,F7] at hi
 rw [wo _ _ _ _ (by rw [List.length_set,F7];omega),wo _ _ _ _ (by rw [F7];omega),PG l (k+1) i hi,PG l k i hi,PG l k (l.length - 1 - k) (by omega),PG l k k (by omega)]
 rw [if_neg (show ¬ (k < k\/l.length - k<=k) by omega),if_neg (show ¬ (l.length - 1 - k < k\/l.length - k<=l.length - 1 - k) by omega)]
 by_cases h1:l.length - 1 - k=i
 ·rw [if_pos h1,if_pos (show i < k+1\/l.length - (k+1)<=i by omega)];congr 1;omega
 ·rw [if_neg h1]
  by_cases h2:k=i
  ·rw [if_pos h2,if_pos (show i < k+1\/l.length - (k+1)<=i by omega)];congr 1;omega
  ·rw [if_neg h2]
   by_cases h3:i < k\/l.length - k<=i
   ·rw [if_pos h3,if_pos (by omega)]
   ·rw [if_neg h3,if_neg (by omega)]
theorem A03 (l:List Int) (k:Nat) (h:l.length - 1 - k<=k) (hk:k<=l.length):rvk l k=l.reverse:=by
 refine Xc (by simp [F7]) (fun i hi=>?_)
 rw [F7] at hi
 have hr:gi l.reverse i=gi l (l.length - 1 - i):=by
  rw [BZ _ _ (by simpa using hi),BZ _ _ (by omega),List.getElem_reverse]
 rw [PG l k i hi,hr]
 by_cases h3:i < k\/l.length - k<=i
 ·rw [if_pos h3]
 ·rw [if_neg h3];congr 1;omega
def kG (w0:World) (v:Value) (l:List Int) (rs:Rws) (ss:List Sl) (x:Ending) (w':World):Prop:=(∃ u,x=.returned u)/\∃ X,Lies 1 X v l.length (vs .u8 l.reverse)/\Own w0 w' (X++rs) ss
theorem WR (g p c:Nat) (cells:Array Value) (l:List Int) (w0 w:World) (rs:Rws) (ss:List Sl) (hm:Own w0 w ((g,cells)::rs) ss) (hX:Lies 1 [(g,cells)] (.slice (some ⟨g,p,none⟩) l.length c) l.length (vs .u8 l)) (hl:l.length<=100000000) (h0:0 < l.length):Calls Tryz.prog 146 #[.slice (some ⟨g,p,none⟩) l.length c] w (kG w0 (.slice (some ⟨g,p,none⟩) l.length c) l rs ss):=by
 rw [<- Rw l] at hX
 rw [Rw] at hX
 have HX0:Hid (Lies 1 [(g,cells)] (.slice (some ⟨g,p,none⟩) l.length c) l.length (vs .u8 (rvk l 0))):=Lib.hid (by rw [Rw];exact hX)
 clear hX
 obtain ⟨i5,hE⟩:=nP
 have HE:=Lib.hid hE
 clear hE
 go_enter Tryz.func146,Tryz.ntmps146
 go_wp2
 go_loopw [2,3] (fun z y wr=>∃ k:Nat,k<=l.length/\k<=l.length - k/\z=.int .i64 k/\y=.int .i64 ((l.length:Int) - 1 - k)/\∃ cells,Lies 1 [(g,cells)] (.slice (some ⟨g,p,none⟩) l.length c) l.length (vs .u8 (rvk l k))/\Own w0 wr ((g,cells)::rs) ss) (fun z _ _=>l.length - (intOf z).toNat)
 case atStart=>exact ⟨0,by omega,by omega,rfl,by go_num,cells,HX0.out,hm⟩
 case round =>
  clear hm HX0
  obtain ⟨k,hk,hk2,rfl,rfl,cells,hX,hm⟩:=hrel
  by_cases hlt:k < l.length - 1 - k
  ·have q1:decide ((k:Int) < (l.length:Int) - 1 - k)=true:=decide_eq_true (by omega)
   obtain ⟨j,hj⟩:∃ j:Nat,j=l.length - 1 - k:=⟨_,rfl⟩
   have e1:(l.length:Int) - 1 - k=(j:Int):=by omega
   rw [e1] at q1 ⊢
   have hjl:j < l.length:=by omega
   have hkl:k < l.length:=by omega
   have hkj:k ≠ j:=by omega
   have HS:=Lib.hid (rY l k hlt)
   rw [<- hj] at HS
   have HJ:=Lib.hid hj
   clear hj
   have HX:=Lib.hid hX
   clear hX
   have c1:cells[p+k]?=some (.int .u8 (gi (rvk l k) k)):=HX.out.cell (Fg _ _ _ (by rw [F7];exact hkl))
   have c2:cells[p+j]?=some (.int .u8 (gi (rvk l k) j)):=HX.out.cell (Fg _ _ _ (by rw [F7];exact hjl))
   have C1:=Lib.hid c1
   have C2:=Lib.hid c2
   clear c1 c2
   obtain ⟨s1,X1⟩:=HX.out.put (j:=k) (by rw [Ai,F7];exact hkl) (.int .u8 (gi (rvk l k) j))
   obtain ⟨s2,X2⟩:=X1.put (j:=j) (by rw [List.length_set,Ai,F7];exact hjl) (.int .u8 (gi (rvk l k) k))
   rw [aK,aK,HS.out] at X2
   have HX2:=Lib.hid X2
   clear X1 X2
   generalize gi (rvk l k) k=x at *
   generalize gi (rvk l k) j=y at *
   have d1:IntKind.i64.wrap ((j:Int) - 1)=(l.length:Int) - 1 - ((k+1:Nat):Int):=by rw [IntWalk.i64_in _ (by omega)];omega
   go_upto_region 3 with fail
   refine rO hm 13 (.rds [(0,false),(1,false),(2,false),(3,false),(4,false),(5,false),(6,false),(7,true),(8,false),(9,false),(10,false),(11,true),(12,false)] (.brk 13 15 (.rds [(14,false)] (.brk 15 16 .done)))) ?_
   clear hm
   intro w hm
   simp only [KT.rds]
   iterate 6 refine kq ?_
   (refine K_p rfl rfl (fun W=>ix1 (k:=j) rfl HE.out rfl rfl rfl hjl) ?_)
   try simp only [Act.put,s3]
   refine km (fun W hm=>ld 0 hm rfl rfl rfl (ot rfl) C2.out) ?_
   iterate 2 refine kq ?_
   (refine K_p rfl rfl (fun W=>ix1 (k:=k) rfl HE.out rfl rfl rfl hkl) ?_)
   try simp only [Act.put,s3]
   refine km (fun W hm=>ld 0 hm rfl rfl rfl (ot rfl) C1.out) ?_
   (refine K_p rfl rfl (fun W=>ix1 (k:=k) rfl HE.out rfl rfl rfl hkl) ?_)
   try simp only [Act.put,s3]
   (refine Em rfl rfl (AZ 0 hm rfl rfl (Ac rfl) rfl (ot rfl) s1 rfl rfl rfl ?_))
   clear hm
   intro w hm
   try simp only [s2,List.set,List.eraseIdx,s3] at hm
   refine ⟨fun W=>Own _ W _ _,hm,?_⟩
   try simp only [Act.put,s3]
   (refine K_p rfl rfl (fun W=>ix1 (k:=j) rfl HE.out rfl rfl rfl hjl) ?_)
   try simp only [Act.put,s3]
   (refine Em rfl rfl (AZ 0 hm rfl rfl (Ac rfl) rfl (ot rfl) s2 rfl rfl rfl ?_))
   clear hm
   intro w hm
   try simp only [s2,List.set,List.eraseIdx,s3] at hm
   refine ⟨fun W=>Own _ W _ _,hm,?_⟩
   try simp only [Act.put,s3]
   refine Ba ?_
   go_simp
   go_wp2
   go_roundw
   case rel=>exact ⟨k+1,by omega,by omega,by go_num,by go_num,_,HX2.out,hm⟩
   case measure=>simp [intOf];omega
  ·have q1:decide ((k:Int) < (l.length:Int) - 1 - k)=false:=decide_eq_false (by omega)
   rw [A03 l k (by omega) hk] at hX
   have HX:=Lib.hid hX
   clear hX
   go_wp2
   go_end0
   exact ⟨⟨_,rfl⟩,_,HX.out,hm⟩
set_option maxHeartbeats 400000
theorem From.one {w:World} {g:Nat} {v:Value} (h:AA w g #[v]):From 1 w (.slice (some ⟨g,0,none⟩) 1 1) 1 [v]:=by
 refine From.Pm h 0 rfl (fun j u hj=>?_)
 have hl:=(List.getElem?_eq_some_iff.1 hj).1
 simp at hl
 subst hl
 simpa using hj
theorem tJ {v:Value} (h:v.oneCell'=true):∀ u ∈ [v],u.oneCell'=true:=fun u hu=>by rw [List.mem_singleton.1 hu];exact h
set_option maxHeartbeats 1000000
set_option maxRecDepth 100000
def wi (n lo hi:Int):Bool:=decide (lo<=n/\n<=hi)
theorem Eu {n lo hi:Int} (h:lo<=n) (k:n<=hi):wi n lo hi=true:=decide_eq_true ⟨h,k⟩
theorem Ri {n lo hi:Int} (h:¬ (lo<=n/\n<=hi)):wi n lo hi=false:=decide_eq_false h
theorem FX (n lo hi:Int) (w:World):Calls Tryz.prog 100 #[.int .i64 n,.int .i64 lo,.int .i64 hi] w fun x w'=>(x=.returned (.bool (wi n lo hi)))/\w'=w:=by
 by_cases h1:lo<=n
 ·have q1:decide (lo<=n)=true:=decide_eq_true h1
  by_cases h2:n<=hi
  ·have q2:decide (n<=hi)=true:=decide_eq_true h2
   rw [Eu h1 h2]
   go_enter Tryz.func100,Tryz.ntmps100
   go_wp2
   go_ret
   exact ⟨rfl,rfl⟩
  ·have q2:decide (n<=hi)=false:=decide_eq_false h2
   rw [Ri (fun h=>h2 h.2)]
   go_enter Tryz.func100,Tryz.ntmps100
   go_wp2
   go_ret
   exact ⟨rfl,rfl⟩
 have q1:decide (lo<=n)=false:=decide_eq_false h1
 rw [Ri (fun h=>h1 h.1)]
 go_enter Tryz.func100,Tryz.ntmps100
 go_wp2
 go_ret
 exact ⟨rfl,rfl⟩
theorem QK (n lo hi:Int) (w:World):Calls Tryz.prog 119 #[.int .i64 n,.int .i64 lo,.int .i64 hi] w fun x w'=>(x=.returned (.bool (wi n lo hi)))/\w'=w:=by
 by_cases h1:lo<=n
 ·have q1:decide (lo<=n)=true:=decide_eq_true h1
  by_cases h2:n<=hi
  ·have q2:decide (n<=hi)=true:=decide_eq_true h2
   rw [Eu h1 h2]
   go_enter Tryz.func119,Tryz.ntmps119
   go_wp2
   go_ret
   exact ⟨rfl,rfl⟩
  ·have q2:decide (n<=hi)=false:=decide_eq_false h2
   rw [Ri (fun h=>h2 h.2)]
   go_enter Tryz.func119,Tryz.ntmps119
   go_wp2
   go_ret
   exact ⟨rfl,rfl⟩
 have q1:decide (lo<=n)=false:=decide_eq_false h1
 rw [Ri (fun h=>h1 h.1)]
 go_enter Tryz.func119,Tryz.ntmps119
 go_wp2
 go_ret
 exact ⟨rfl,rfl⟩
theorem JH (n lo hi:Int) (w:World):Calls Tryz.prog 210 #[.int .i64 n,.int .i64 lo,.int .i64 hi] w fun x w'=>(x=.returned (.bool (wi n lo hi)))/\w'=w:=by
 by_cases h1:lo<=n
 ·have q1:decide (lo<=n)=true:=decide_eq_true h1
  by_cases h2:n<=hi
  ·have q2:decide (n<=hi)=true:=decide_eq_true h2
   rw [Eu h1 h2]
   go_enter Tryz.func210,Tryz.ntmps210
   go_wp2
   go_ret
   exact ⟨rfl,rfl⟩
  ·have q2:decide (n<=hi)=false:=decide_eq_false h2
   rw [Ri (fun h=>h2 h.2)]
   go_enter Tryz.func210,Tryz.ntmps210
   go_wp2
   go_ret
   exact ⟨rfl,rfl⟩
 have q1:decide (lo<=n)=false:=decide_eq_false h1
 rw [Ri (fun h=>h1 h.1)]
 go_enter Tryz.func210,Tryz.ntmps210
 go_wp2
 go_ret
 exact ⟨rfl,rfl⟩
@[reducible] def VN (V M:Int):Array Value:=#[.int .i64 V,.int .i64 M]
def DX (V M:Int):Bool:=if M < 1\/4 < M then decide (V=0/\M=0) else decide (2 ^ (7 * (M - 1)).toNat<=V/\V < 2 ^ (7 * M).toNat)
theorem rb {a b:Bool} (h:a=b):Ending.returned (.bool a)=.returned (.bool b):=by rw [h]
theorem aH (V M:Int) (h0:0<=M) (h1:M<=4) (w:World):Calls Tryz.prog 220 #[.agg (VN V M)] w (RB w (.bool (DX V M))):=by
 go_enter Tryz.func220,Tryz.ntmps220
 have hm:=Own.nil w
 have q0:M=0\/M=1\/M=2\/M=3\/M=4:=by omega
 clear h0 h1
 rcases q0 with rfl|rfl|rfl|rfl|rfl
 ·go_wp2_with (first
  |(with_reducible refine wl _ 0 hm ?_)
  |(with_reducible refine wla _ 0 hm ?_)
  |(with_reducible refine wb hm ?_;clear hm;intro w g hm))
  all_goals (go_ret;exact ⟨rb (by simp [DX, *]),hm.below⟩)
 ·by_cases q1:1<=V
  ·have q2:decide (1<=V)=true:=decide_eq_true q1
   go_upto_region 3 with (first
  |(with_reducible refine wl _ 0 hm ?_)
  |(with_reducible refine wb hm ?_;clear hm;intro w g hm))
   refine rO hm 18 (.rds [(0,false),(1,true),(2,false),(3,true),(4,false),(5,false),(6,false),(7,false),(8,false),(9,false),(10,true),(11,false),(12,true),(13,false),(14,false),(15,false),(16,false),(17,false)] .done) ?_
   clear hm
   intro w hm
   simp only [KT.rds]
   refine kq ?_
   refine km (fun W hm=>ld 0 hm rfl rfl rfl (ot rfl) rfl) ?_
   refine kq ?_
   refine km (fun W hm=>ld 0 hm rfl rfl rfl (ot rfl) rfl) ?_
   (refine K_p rfl rfl (fun W=>by go_simp;((rw [IntWalk.i64_in _ (by omega)];done))) ?_)
   try simp only [Act.put,s3]
   (refine K_p rfl rfl (fun W=>by go_simp;((rw [IntWalk.i64_in _ (by omega)];done))) ?_)
   try simp only [Act.put,s3]
   (refine K_p rfl rfl (fun W=>by go_simp;((rw [IntWalk.i64_in _ (by omega)];done))) ?_)
   try simp only [Act.put,s3]
   iterate 3 refine kq ?_
   refine km (fun W hm=>ld 0 hm rfl rfl rfl (ot rfl) rfl) ?_
   refine kq ?_
   refine km (fun W hm=>ld 0 hm rfl rfl rfl (ot rfl) rfl) ?_
   ((refine K_p rfl rfl (fun W=>by go_simp;((rw [IntWalk.i64_in _ (by omega)];done))) ?_))
   try simp only [Act.put,s3]
   ((refine K_p rfl rfl (fun W=>by go_simp;((rw [IntWalk.i64_in _ (by omega)];done))) ?_))
   try simp only [Act.put,s3]
   iterate 3 refine kq ?_
   refine Ba ?_
   go_simp
   go_wp2
   all_goals (go_ret;exact ⟨rb (by simp [DX, *]),hm.below⟩)
  ·have q2:decide (1<=V)=false:=decide_eq_false q1
   go_upto_region 3 with (first
  |(with_reducible refine wl _ 0 hm ?_)
  |(with_reducible refine wb hm ?_;clear hm;intro w g hm))
   refine rO hm 18 (.rds [(0,false),(1,true),(2,false),(3,true),(4,false),(5,false),(6,false),(7,false),(8,false),(9,false),(10,true),(11,false),(12,true),(13,false),(14,false),(15,false),(16,false),(17,false)] .done) ?_
   clear hm
   intro w hm
   simp only [KT.rds]
   refine kq ?_
   refine km (fun W hm=>ld 0 hm rfl rfl rfl (ot rfl) rfl) ?_
   refine kq ?_
   refine km (fun W hm=>ld 0 hm rfl rfl rfl (ot rfl) rfl) ?_
   (refine K_p rfl rfl (fun W=>by go_simp;((rw [IntWalk.i64_in _ (by omega)];done))) ?_)
   try simp only [Act.put,s3]
   (refine K_p rfl rfl (fun W=>by go_simp;((rw [IntWalk.i64_in _ (by omega)];done))) ?_)
   try simp only [Act.put,s3]
   (refine K_p rfl rfl (fun W=>by go_simp;((rw [IntWalk.i64_in _ (by omega)];done))) ?_)
   try simp only [Act.put,s3]
   iterate 2 refine kq ?_
   ((refine Bz rfl rfl ?_))
   try simp only [Act.put,s3]
   ((refine D6 rfl rfl ?_))
   try simp only [Act.put,s3]
   ((refine Bz rfl rfl ?_))
   try simp only [Act.put,s3]
   ((refine D6 rfl rfl ?_))
   try simp only [Act.put,s3]
   ((refine Bz rfl rfl ?_))
   try simp only [Act.put,s3]
   ((refine Bz rfl rfl ?_))
   try simp only [Act.put,s3]
   ((refine Bz rfl rfl ?_))
   try simp only [Act.put,s3]
   iterate 2 refine kq ?_
   refine Ba ?_
   go_simp
   go_wp2
   all_goals (go_ret;exact ⟨rb (by simp [DX, *]),hm.below⟩)
 ·by_cases q1:128<=V
  ·have q2:decide (128<=V)=true:=decide_eq_true q1
   go_upto_region 3 with (first
  |(with_reducible refine wl _ 0 hm ?_)
  |(with_reducible refine wb hm ?_;clear hm;intro w g hm))
   refine rO hm 18 (.rds [(0,false),(1,true),(2,false),(3,true),(4,false),(5,false),(6,false),(7,false),(8,false),(9,false),(10,true),(11,false),(12,true),(13,false),(14,false),(15,false),(16,false),(17,false)] .done) ?_
   clear hm
   intro w hm
   simp only [KT.rds]
   refine kq ?_
   refine km (fun W hm=>ld 0 hm rfl rfl rfl (ot rfl) rfl) ?_
   refine kq ?_
   refine km (fun W hm=>ld 0 hm rfl rfl rfl (ot rfl) rfl) ?_
   (refine K_p rfl rfl (fun W=>by go_simp;((rw [IntWalk.i64_in _ (by omega)];done))) ?_)
   try simp only [Act.put,s3]
   (refine K_p rfl rfl (fun W=>by go_simp;((rw [IntWalk.i64_in _ (by omega)];done))) ?_)
   try simp only [Act.put,s3]
   (refine K_p rfl rfl (fun W=>by go_simp;((rw [IntWalk.i64_in _ (by omega)];done))) ?_)
   try simp only [Act.put,s3]
   iterate 3 refine kq ?_
   refine km (fun W hm=>ld 0 hm rfl rfl rfl (ot rfl) rfl) ?_
   refine kq ?_
   refine km (fun W hm=>ld 0 hm rfl rfl rfl (ot rfl) rfl) ?_
   ((refine K_p rfl rfl (fun W=>by go_simp;((rw [IntWalk.i64_in _ (by omega)];done))) ?_))
   try simp only [Act.put,s3]
   ((refine K_p rfl rfl (fun W=>by go_simp;((rw [IntWalk.i64_in _ (by omega)];done))) ?_))
   try simp only [Act.put,s3]
   iterate 3 refine kq ?_
   refine Ba ?_
   go_simp
   go_wp2
   all_goals (go_ret;exact ⟨rb (by simp [DX, *]),hm.below⟩)
  ·have q2:decide (128<=V)=false:=decide_eq_false q1
   go_upto_region 3 with (first
  |(with_reducible refine wl _ 0 hm ?_)
  |(with_reducible refine wb hm ?_;clear hm;intro w g hm))
   refine rO hm 18 (.rds [(0,false),(1,true),(2,false),(3,true),(4,false),(5,false),(6,false),(7,false),(8,false),(9,false),(10,true),(11,false),(12,true),(13,false),(14,false),(15,false),(16,false),(17,false)] .done) ?_
   clear hm
   intro w hm
   simp only [KT.rds]
   refine kq ?_
   refine km (fun W hm=>ld 0 hm rfl rfl rfl (ot rfl) rfl) ?_
   refine kq ?_
   refine km (fun W hm=>ld 0 hm rfl rfl rfl (ot rfl) rfl) ?_
   (refine K_p rfl rfl (fun W=>by go_simp;((rw [IntWalk.i64_in _ (by omega)];done))) ?_)
   try simp only [Act.put,s3]
   (refine K_p rfl rfl (fun W=>by go_simp;((rw [IntWalk.i64_in _ (by omega)];done))) ?_)
   try simp only [Act.put,s3]
   (refine K_p rfl rfl (fun W=>by go_simp;((rw [IntWalk.i64_in _ (by omega)];done))) ?_)
   try simp only [Act.put,s3]
   iterate 2 refine kq ?_
   ((refine Bz rfl rfl ?_))
   try simp only [Act.put,s3]
   ((refine D6 rfl rfl ?_))
   try simp only [Act.put,s3]
   ((refine Bz rfl rfl ?_))
   try simp only [Act.put,s3]
   ((refine D6 rfl rfl ?_))
   try simp only [Act.put,s3]
   ((refine Bz rfl rfl ?_))
   try simp only [Act.put,s3]
   ((refine Bz rfl rfl ?_))
   try simp only [Act.put,s3]
   ((refine Bz rfl rfl ?_))
   try simp only [Act.put,s3]
   iterate 2 refine kq ?_
   refine Ba ?_
   go_simp
   go_wp2
   all_goals (go_ret;exact ⟨rb (by simp [DX, *]),hm.below⟩)
 ·by_cases q1:16384<=V
  ·have q2:decide (16384<=V)=true:=decide_eq_true q1
   go_upto_region 3 with (first
  |(with_reducible refine wl _ 0 hm ?_)
  |(with_reducible refine wb hm ?_;clear hm;intro w g hm))
   refine rO hm 18 (.rds [(0,false),(1,true),(2,false),(3,true),(4,false),(5,false),(6,false),(7,false),(8,false),(9,false),(10,true),(11,false),(12,true),(13,false),(14,false),(15,false),(16,false),(17,false)] .done) ?_
   clear hm
   intro w hm
   simp only [KT.rds]
   refine kq ?_
   refine km (fun W hm=>ld 0 hm rfl rfl rfl (ot rfl) rfl) ?_
   refine kq ?_
   refine km (fun W hm=>ld 0 hm rfl rfl rfl (ot rfl) rfl) ?_
   (refine K_p rfl rfl (fun W=>by go_simp;((rw [IntWalk.i64_in _ (by omega)];done))) ?_)
   try simp only [Act.put,s3]
   (refine K_p rfl rfl (fun W=>by go_simp;((rw [IntWalk.i64_in _ (by omega)];done))) ?_)
   try simp only [Act.put,s3]
   (refine K_p rfl rfl (fun W=>by go_simp;((rw [IntWalk.i64_in _ (by omega)];done))) ?_)
   try simp only [Act.put,s3]
   iterate 3 refine kq ?_
   refine km (fun W hm=>ld 0 hm rfl rfl rfl (ot rfl) rfl) ?_
   refine kq ?_
   refine km (fun W hm=>ld 0 hm rfl rfl rfl (ot rfl) rfl) ?_
   ((refine K_p rfl rfl (fun W=>by go_simp;((rw [IntWalk.i64_in _ (by omega)];done))) ?_))
   try simp only [Act.put,s3]
   ((refine K_p rfl rfl (fun W=>by go_simp;((rw [IntWalk.i64_in _ (by omega)];done))) ?_))
   try simp only [Act.put,s3]
   iterate 3 refine kq ?_
   refine Ba ?_
   go_simp
   go_wp2
   all_goals (go_ret;exact ⟨rb (by simp [DX, *]),hm.below⟩)
  ·have q2:decide (16384<=V)=false:=decide_eq_false q1
   go_upto_region 3 with (first
  |(with_reducible refine wl _ 0 hm ?_)
  |(with_reducible refine wb hm ?_;clear hm;intro w g hm))
   refine rO hm 18 (.rds [(0,false),(1,true),(2,false),(3,true),(4,false),(5,false),(6,false),(7,false),(8,false),(9,false),(10,true),(11,false),(12,true),(13,false),(14,false),(15,false),(16,false),(17,false)] .done) ?_
   clear hm
   intro w hm
   simp only [KT.rds]
   refine kq ?_
   refine km (fun W hm=>ld 0 hm rfl rfl rfl (ot rfl) rfl) ?_
   refine kq ?_
   refine km (fun W hm=>ld 0 hm rfl rfl rfl (ot rfl) rfl) ?_
   (refine K_p rfl rfl (fun W=>by go_simp;((rw [IntWalk.i64_in _ (by omega)];done))) ?_)
   try simp only [Act.put,s3]
   (refine K_p rfl rfl (fun W=>by go_simp;((rw [IntWalk.i64_in _ (by omega)];done))) ?_)
   try simp only [Act.put,s3]
   (refine K_p rfl rfl (fun W=>by go_simp;((rw [IntWalk.i64_in _ (by omega)];done))) ?_)
   try simp only [Act.put,s3]
   iterate 2 refine kq ?_
   ((refine Bz rfl rfl ?_))
   try simp only [Act.put,s3]
   ((refine D6 rfl rfl ?_))
   try simp only [Act.put,s3]
   ((refine Bz rfl rfl ?_))
   try simp only [Act.put,s3]
   ((refine D6 rfl rfl ?_))
   try simp only [Act.put,s3]
   ((refine Bz rfl rfl ?_))
   try simp only [Act.put,s3]
   ((refine Bz rfl rfl ?_))
   try simp only [Act.put,s3]
   ((refine Bz rfl rfl ?_))
   try simp only [Act.put,s3]
   iterate 2 refine kq ?_
   refine Ba ?_
   go_simp
   go_wp2
   all_goals (go_ret;exact ⟨rb (by simp [DX, *]),hm.below⟩)
 ·by_cases q1:2097152<=V
  ·have q2:decide (2097152<=V)=true:=decide_eq_true q1
   go_upto_region 3 with (first
  |(with_reducible refine wl _ 0 hm ?_)
  |(with_reducible refine wb hm ?_;clear hm;intro w g hm))
   refine rO hm 18 (.rds [(0,false),(1,true),(2,false),(3,true),(4,false),(5,false),(6,false),(7,false),(8,false),(9,false),(10,true),(11,false),(12,true),(13,false),(14,false),(15,false),(16,false),(17,false)] .done) ?_
   clear hm
   intro w hm
   simp only [KT.rds]
   refine kq ?_
   refine km (fun W hm=>ld 0 hm rfl rfl rfl (ot rfl) rfl) ?_
   refine kq ?_
   refine km (fun W hm=>ld 0 hm rfl rfl rfl (ot rfl) rfl) ?_
   (refine K_p rfl rfl (fun W=>by go_simp;((rw [IntWalk.i64_in _ (by omega)];done))) ?_)
   try simp only [Act.put,s3]
   (refine K_p rfl rfl (fun W=>by go_simp;((rw [IntWalk.i64_in _ (by omega)];done))) ?_)
   try simp only [Act.put,s3]
   (refine K_p rfl rfl (fun W=>by go_simp;((rw [IntWalk.i64_in _ (by omega)];done))) ?_)
   try simp only [Act.put,s3]
   iterate 3 refine kq ?_
   refine km (fun W hm=>ld 0 hm rfl rfl rfl (ot rfl) rfl) ?_
   refine kq ?_
   refine km (fun W hm=>ld 0 hm rfl rfl rfl (ot rfl) rfl) ?_
   ((refine K_p rfl rfl (fun W=>by go_simp;((rw [IntWalk.i64_in _ (by omega)];done))) ?_))
   try simp only [Act.put,s3]
   ((refine K_p rfl rfl (fun W=>by go_simp;((rw [IntWalk.i64_in _ (by omega)];done))) ?_))
   try simp only [Act.put,s3]
   iterate 3 refine kq ?_
   refine Ba ?_
   go_simp
   go_wp2
   all_goals (go_ret;exact ⟨rb (by simp [DX, *]),hm.below⟩)
  ·have q2:decide (2097152<=V)=false:=decide_eq_false q1
   go_upto_region 3 with (first
  |(with_reducible refine wl _ 0 hm ?_)
  |(with_reducible refine wb hm ?_;clear hm;intro w g hm))
   refine rO hm 18 (.rds [(0,false),(1,true),(2,false),(3,true),(4,false),(5,false),(6,false),(7,false),(8,false),(9,false),(10,true),(11,false),(12,true),(13,false),(14,false),(15,false),(16,false),(17,false)] .done) ?_
   clear hm
   intro w hm
   simp only [KT.rds]
   refine kq ?_
   refine km (fun W hm=>ld 0 hm rfl rfl rfl (ot rfl) rfl) ?_
   refine kq ?_
   refine km (fun W hm=>ld 0 hm rfl rfl rfl (ot rfl) rfl) ?_
   (refine K_p rfl rfl (fun W=>by go_simp;((rw [IntWalk.i64_in _ (by omega)];done))) ?_)
   try simp only [Act.put,s3]
   (refine K_p rfl rfl (fun W=>by go_simp;((rw [IntWalk.i64_in _ (by omega)];done))) ?_)
   try simp only [Act.put,s3]
   (refine K_p rfl rfl (fun W=>by go_simp;((rw [IntWalk.i64_in _ (by omega)];done))) ?_)
   try simp only [Act.put,s3]
   iterate 2 refine kq ?_
   ((refine Bz rfl rfl ?_))
   try simp only [Act.put,s3]
   ((refine D6 rfl rfl ?_))
   try simp only [Act.put,s3]
   ((refine Bz rfl rfl ?_))
   try simp only [Act.put,s3]
   ((refine D6 rfl rfl ?_))
   try simp only [Act.put,s3]
   ((refine Bz rfl rfl ?_))
   try simp only [Act.put,s3]
   ((refine Bz rfl rfl ?_))
   try simp only [Act.put,s3]
   ((refine Bz rfl rfl ?_))
   try simp only [Act.put,s3]
   iterate 2 refine kq ?_
   refine Ba ?_
   go_simp
   go_wp2
   all_goals (go_ret;exact ⟨rb (by simp [DX, *]),hm.below⟩)
set_option maxHeartbeats 1000000
set_option maxRecDepth 100000
def vnx (V c:Int):Int:=V * 128+c % 128
theorem OG (x:Int) (h0:0<=x) (h1:x < 256):bits .and .u8 x 127=x % 128:=bits_mask .u8 8 (by decide) wraps_u8 7 (by decide) x h0 h1
theorem tC (V c:Int) (h0:0<=V) (h1:V<=268435456) (c0:0<=c) (c1:c<=255):bits .or .i64 (V * 128) (bits .and .u8 c 127)=vnx V c:=by
 rw [OG c c0 (by omega),vnx]
 exact bits_join .i64 63 (by decide) (fun n h0 h1=>IntWalk.i64_in n (by omega)) 7 (V * 128) (c % 128) (by omega) (by omega) (by omega) (by omega) (by omega) (by omega)
theorem aJ (V M c:Int) (hc:c=128) (hm0:M=0) (hv:DX V M=true) (hM0:0<=M) (hM:M<=4) (hV0:0<=V) (hV:V<=65536) (c0:0<=c) (c1:c<=255) (w:World):Calls Tryz.prog 182 #[.agg (VN V M),.int .u8 c] w (RB w (.tuple #[.agg (VN 0 0),.bool false,.int .i64 51])):=by
 have hb0:0<=bits .and .u8 c 127:=by rw [OG c c0 (by omega)];omega
 have hb1:bits .and .u8 c 127<=127:=by rw [OG c c0 (by omega)];omega
 have e1:=Lib.hid (tC V c hV0 (by omega) c0 c1)
 have CV:Hid (∀ w,Calls Tryz.prog 220 #[.agg (VN V M)] w (RB w (.bool true))):=Lib.hid fun w=>by have:=aH V M hM0 hM w;rwa [hv] at this
 have hn:vnx V c<=8388735/\0<=vnx V c:=by rw [vnx];omega
 have q1:decide (2147483647 < bits .or .i64 (V * 128) (bits .and .u8 c 127))=false:=by rw [e1.out];exact decide_eq_false (by omega)
 subst hc hm0
 clear hv
 go_enter Tryz.func182,Tryz.ntmps182
 have hm:=Own.nil w
 go_wp2_with (first
  |(go_at_call 220;refine cB (CV.out _) hm ?_;clear hm;intro w1 hm)
  |(with_reducible refine wl _ 1 hm ?_)
  |(with_reducible refine wla _ 0 hm ?_)
  |(with_reducible refine wla _ 1 hm ?_)
  |(with_reducible refine ws _ 0 hm ?_;clear hm;intro w hm)
  |(with_reducible refine wa _ hm Ja ?_;clear hm;intro w g hm)
  |(with_reducible refine wb hm ?_;clear hm;intro w g hm))
 (refine bodyPost_ret (Ae rfl rfl (hm.row 0 rfl) (ag rfl)) rfl ?_)
 exact ⟨rfl,hm.below⟩
theorem aI (V M c:Int) (hv:DX V M=true) (hM0:0<=M) (hM:M<=4) (hV0:0<=V) (hV:V<=65536) (c0:0<=c) (c1:c<=255) (hf:¬ (c=128/\M=0)) (hg:¬ (M=4/\128<=c)) (w:World):Calls Tryz.prog 182 #[.agg (VN V M),.int .u8 c] w (RB w (.tuple #[.agg (VN (vnx V c) (M+1)),.bool (decide (c < 128)),.int .i64 0])):=by
 have hb0:0<=bits .and .u8 c 127:=by rw [OG c c0 (by omega)];omega
 have hb1:bits .and .u8 c 127<=127:=by rw [OG c c0 (by omega)];omega
 have e1:=Lib.hid (tC V c hV0 (by omega) c0 c1)
 have CV:Hid (∀ w,Calls Tryz.prog 220 #[.agg (VN V M)] w (RB w (.bool true))):=Lib.hid fun w=>by have:=aH V M hM0 hM w;rwa [hv] at this
 have hn:vnx V c<=8388735/\0<=vnx V c:=by rw [vnx];omega
 have q1:decide (2147483647 < bits .or .i64 (V * 128) (bits .and .u8 c 127))=false:=by rw [e1.out];exact decide_eq_false (by omega)
 clear hv
 by_cases k1:c=128
 ·subst k1
  have k2:(M == 0)=false:=by simp;omega
  have k3:(M == 4)=false:=by simp;omega
  clear hf hg
  go_enter Tryz.func182,Tryz.ntmps182
  have hm:=Own.nil w
  go_wp2_with (first
   |(go_at_call 220;refine cB (CV.out _) hm ?_;clear hm;intro w1 hm)
   |(with_reducible refine wl _ 1 hm ?_)
   |(with_reducible refine wla _ 1 hm ?_)
   |(with_reducible refine ws _ 0 hm ?_;clear hm;intro w hm)
   |(with_reducible refine wa _ hm Ja ?_;clear hm;intro w g hm)
   |(with_reducible refine wb hm ?_;clear hm;intro w g hm))
  (refine bodyPost_ret (Ae rfl rfl (hm.row 0 rfl) (ag rfl)) rfl ?_)
  exact ⟨by rw [e1.out];rfl,hm.below⟩
 have k1:(c == 128)=false:=by simpa using k1
 by_cases k3:M=4
 ·subst k3
  have k4:decide (128<=c)=false:=decide_eq_false (by omega)
  clear hf hg
  go_enter Tryz.func182,Tryz.ntmps182
  have hm:=Own.nil w
  go_wp2_with (first
   |(go_at_call 220;refine cB (CV.out _) hm ?_;clear hm;intro w1 hm)
   |(with_reducible refine wl _ 1 hm ?_)
   |(with_reducible refine wla _ 1 hm ?_)
   |(with_reducible refine ws _ 0 hm ?_;clear hm;intro w hm)
   |(with_reducible refine wa _ hm Ja ?_;clear hm;intro w g hm)
   |(with_reducible refine wb hm ?_;clear hm;intro w g hm))
  (refine bodyPost_ret (Ae rfl rfl (hm.row 0 rfl) (ag rfl)) rfl ?_)
  exact ⟨by rw [e1.out];rfl,hm.below⟩
 have k3:(M == 4)=false:=by simpa using k3
 clear hf hg
 go_enter Tryz.func182,Tryz.ntmps182
 have hm:=Own.nil w
 go_wp2_with (first
  |(go_at_call 220;refine cB (CV.out _) hm ?_;clear hm;intro w1 hm)
  |(with_reducible refine wl _ 1 hm ?_)
  |(with_reducible refine wla _ 1 hm ?_)
  |(with_reducible refine ws _ 0 hm ?_;clear hm;intro w hm)
  |(with_reducible refine wa _ hm Ja ?_;clear hm;intro w g hm)
  |(with_reducible refine wb hm ?_;clear hm;intro w g hm))
 (refine bodyPost_ret (Ae rfl rfl (hm.row 0 rfl) (ag rfl)) rfl ?_)
 exact ⟨by rw [e1.out];rfl,hm.below⟩
set_option maxHeartbeats 1000000
set_option maxRecDepth 100000
theorem gW {V M:Int} (h:DX V M=true) (hV:V<=65536) (h0:0<=M) (h1:M<=4):M<=3/\0<=V:=by
 have q0:M=0\/M=1\/M=2\/M=3\/M=4:=by omega
 rcases q0 with rfl|rfl|rfl|rfl|rfl<;>simp [DX] at h<;>omega
theorem hcomes (V M most:Int) (h0:0<=M) (h1:M<=4) (w:World):Calls Tryz.prog 181 #[.agg (VN V M),.int .i64 most] w (RB w (.bool (DX V M && decide (V<=most)))):=by
 have CV:Hid (∀ w,Calls Tryz.prog 220 #[.agg (VN V M)] w (RB w (.bool (DX V M)))):=Lib.hid fun w=>aH V M h0 h1 w
 cases hv:DX V M
 all_goals (rw [hv] at CV;clear hv)
 ·go_enter Tryz.func181,Tryz.ntmps181
  have hm:=Own.nil w
  go_wp2_with (first
  |(go_at_call 220;refine cB (CV.out _) hm ?_;clear hm;intro w1 hm)
  |(with_reducible refine wla _ 0 hm ?_)
  |(with_reducible refine wb hm ?_;clear hm;intro w g hm))
  go_ret
  exact ⟨rfl,hm.below⟩
 go_enter Tryz.func181,Tryz.ntmps181
 have hm:=Own.nil w
 go_wp2_with (first
  |(go_at_call 220;refine cB (CV.out _) hm ?_;clear hm;intro w1 hm)
  |(with_reducible refine wl _ 0 hm ?_)
  |(with_reducible refine wla _ 0 hm ?_)
  |(with_reducible refine wb hm ?_;clear hm;intro w g hm))
 all_goals (go_ret;exact ⟨rb (by simp [*]),hm.below⟩)
def D5 (V M c:Int):Int:=if c=128/\M=0 then 0 else vnx V c
def EM (M c:Int):Int:=if c=128/\M=0 then 0 else M+1
def EZ (M c:Int):Bool:=decide (¬ (c=128/\M=0)/\c < 128)
def EL (V M c most:Int):Bool:=decide (¬ (c=128/\M=0)/\vnx V c<=most/\(128<=c\/0 < vnx V c))
theorem hgrow (V M c most:Int) (hv:DX V M=true) (hM0:0<=M) (hM:M<=4) (hV:V<=65536) (c0:0<=c) (c1:c<=255) (w:World):Calls Tryz.prog 137 #[.agg (VN V M),.int .u8 c,.int .i64 most] w (RB w (.tuple #[.agg (VN (D5 V M c) (EM M c)),.bool (EZ M c),.bool (EL V M c most)])):=by
 obtain ⟨hM3,hV0⟩:=gW hv hV hM0 hM
 by_cases hf:c=128/\M=0
 ·have CS:Hid (∀ w,Calls Tryz.prog 182 #[.agg (VN V M),.int .u8 c] w (RB w (.tuple #[.agg (VN 0 0),.bool false,.int .i64 51]))):=Lib.hid fun w=>aJ V M c hf.1 hf.2 hv hM0 hM hV0 hV c0 c1 w
  rw [show D5 V M c=0 by rw [D5,if_pos hf],show EM M c=0 by rw [EM,if_pos hf],show EZ M c=false by simp [EZ,hf.1,hf.2],show EL V M c most=false by simp [EL,hf.1,hf.2]]
  clear hv hf
  go_enter Tryz.func137,Tryz.ntmps137
  have hm:=Own.nil w
  go_wp2_with (first
   |(go_at_call 182;refine cB (CS.out _) hm ?_;clear hm;intro w1 hm)
   |(with_reducible refine wla _ 0 hm ?_)
   |(with_reducible refine wla _ 1 hm ?_)
   |(with_reducible refine ws _ 0 hm ?_;clear hm;intro w hm)
   |(with_reducible refine wa _ hm Ja ?_;clear hm;intro w g hm)
   |(with_reducible refine wb hm ?_;clear hm;intro w g hm))
  (refine bodyPost_ret (Ae rfl rfl (hm.row 0 rfl) (ag rfl)) rfl ?_)
  exact ⟨rfl,hm.below⟩
 have CS:Hid (∀ w,Calls Tryz.prog 182 #[.agg (VN V M),.int .u8 c] w (RB w (.tuple #[.agg (VN (vnx V c) (M+1)),.bool (decide (c < 128)),.int .i64 0]))):=Lib.hid fun w=>aI V M c hv hM0 hM hV0 hV c0 c1 hf (by omega) w
 rw [show D5 V M c=vnx V c by rw [D5,if_neg hf],show EM M c=M+1 by rw [EM,if_neg hf]]
 have HD:Hid (EZ M c=decide (c < 128)):=Lib.hid (by simp [EZ,hf])
 have HO:Hid (EL V M c most=decide (vnx V c<=most/\(128<=c\/0 < vnx V c))):=Lib.hid (by simp [EL,hf])
 rw [HD.out,HO.out]
 clear hf hv HD HO
 generalize vnx V c=n at *
 by_cases k1:n<=most
 all_goals by_cases k2:c < 128
 all_goals by_cases k3:0 < n
 ·have r1:decide (n<=most)=true:=decide_eq_true k1
  have r2:decide (c < 128)=true:=decide_eq_true k2
  have r3:decide (0 < n)=true:=decide_eq_true k3
  rw [r2,show decide (n<=most/\(128<=c\/0 < n))=true by exact decide_eq_true (by omega)]
  rw [r2] at CS
  clear k1 k2 k3
  go_enter Tryz.func137,Tryz.ntmps137
  have hm:=Own.nil w
  go_wp2_with (first
   |(go_at_call 182;refine cB (CS.out _) hm ?_;clear hm;intro w1 hm)
   |(with_reducible refine wl _ 0 hm ?_)
   |(with_reducible refine wla _ 0 hm ?_)
   |(with_reducible refine wla _ 1 hm ?_)
   |(with_reducible refine ws _ 0 hm ?_;clear hm;intro w hm)
   |(with_reducible refine wa _ hm Ja ?_;clear hm;intro w g hm)
   |(with_reducible refine wb hm ?_;clear hm;intro w g hm))
  (refine bodyPost_ret (Ae rfl rfl (hm.row 0 rfl) (ag rfl)) rfl ?_)
  exact ⟨rfl,hm.below⟩
 ·have r1:decide (n<=most)=true:=decide_eq_true k1
  have r2:decide (c < 128)=true:=decide_eq_true k2
  have r3:decide (0 < n)=false:=decide_eq_false k3
  rw [r2,show decide (n<=most/\(128<=c\/0 < n))=false by exact decide_eq_false (by omega)]
  rw [r2] at CS
  clear k1 k2 k3
  go_enter Tryz.func137,Tryz.ntmps137
  have hm:=Own.nil w
  go_wp2_with (first
   |(go_at_call 182;refine cB (CS.out _) hm ?_;clear hm;intro w1 hm)
   |(with_reducible refine wl _ 0 hm ?_)
   |(with_reducible refine wla _ 0 hm ?_)
   |(with_reducible refine wla _ 1 hm ?_)
   |(with_reducible refine ws _ 0 hm ?_;clear hm;intro w hm)
   |(with_reducible refine wa _ hm Ja ?_;clear hm;intro w g hm)
   |(with_reducible refine wb hm ?_;clear hm;intro w g hm))
  (refine bodyPost_ret (Ae rfl rfl (hm.row 0 rfl) (ag rfl)) rfl ?_)
  exact ⟨rfl,hm.below⟩
 ·have r1:decide (n<=most)=true:=decide_eq_true k1
  have r2:decide (c < 128)=false:=decide_eq_false k2
  have r3:decide (0 < n)=true:=decide_eq_true k3
  rw [r2,show decide (n<=most/\(128<=c\/0 < n))=true by exact decide_eq_true (by omega)]
  rw [r2] at CS
  clear k1 k2 k3
  go_enter Tryz.func137,Tryz.ntmps137
  have hm:=Own.nil w
  go_wp2_with (first
   |(go_at_call 182;refine cB (CS.out _) hm ?_;clear hm;intro w1 hm)
   |(with_reducible refine wl _ 0 hm ?_)
   |(with_reducible refine wla _ 0 hm ?_)
   |(with_reducible refine wla _ 1 hm ?_)
   |(with_reducible refine ws _ 0 hm ?_;clear hm;intro w hm)
   |(with_reducible refine wa _ hm Ja ?_;clear hm;intro w g hm)
   |(with_reducible refine wb hm ?_;clear hm;intro w g hm))
  (refine bodyPost_ret (Ae rfl rfl (hm.row 0 rfl) (ag rfl)) rfl ?_)
  exact ⟨rfl,hm.below⟩
 ·have r1:decide (n<=most)=true:=decide_eq_true k1
  have r2:decide (c < 128)=false:=decide_eq_false k2
  have r3:decide (0 < n)=false:=decide_eq_false k3
  rw [r2,show decide (n<=most/\(128<=c\/0 < n))=true by exact decide_eq_true (by omega)]
  rw [r2] at CS
  clear k1 k2 k3
  go_enter Tryz.func137,Tryz.ntmps137
  have hm:=Own.nil w
  go_wp2_with (first
   |(go_at_call 182;refine cB (CS.out _) hm ?_;clear hm;intro w1 hm)
   |(with_reducible refine wl _ 0 hm ?_)
   |(with_reducible refine wla _ 0 hm ?_)
   |(with_reducible refine wla _ 1 hm ?_)
   |(with_reducible refine ws _ 0 hm ?_;clear hm;intro w hm)
   |(with_reducible refine wa _ hm Ja ?_;clear hm;intro w g hm)
   |(with_reducible refine wb hm ?_;clear hm;intro w g hm))
  (refine bodyPost_ret (Ae rfl rfl (hm.row 0 rfl) (ag rfl)) rfl ?_)
  exact ⟨rfl,hm.below⟩
 ·have r1:decide (n<=most)=false:=decide_eq_false k1
  have r2:decide (c < 128)=true:=decide_eq_true k2
  have r3:decide (0 < n)=true:=decide_eq_true k3
  rw [r2,show decide (n<=most/\(128<=c\/0 < n))=false by exact decide_eq_false (by omega)]
  rw [r2] at CS
  clear k1 k2 k3
  go_enter Tryz.func137,Tryz.ntmps137
  have hm:=Own.nil w
  go_wp2_with (first
   |(go_at_call 182;refine cB (CS.out _) hm ?_;clear hm;intro w1 hm)
   |(with_reducible refine wl _ 0 hm ?_)
   |(with_reducible refine wla _ 0 hm ?_)
   |(with_reducible refine wla _ 1 hm ?_)
   |(with_reducible refine ws _ 0 hm ?_;clear hm;intro w hm)
   |(with_reducible refine wa _ hm Ja ?_;clear hm;intro w g hm)
   |(with_reducible refine wb hm ?_;clear hm;intro w g hm))
  (refine bodyPost_ret (Ae rfl rfl (hm.row 0 rfl) (ag rfl)) rfl ?_)
  exact ⟨rfl,hm.below⟩
 ·have r1:decide (n<=most)=false:=decide_eq_false k1
  have r2:decide (c < 128)=true:=decide_eq_true k2
  have r3:decide (0 < n)=false:=decide_eq_false k3
  rw [r2,show decide (n<=most/\(128<=c\/0 < n))=false by exact decide_eq_false (by omega)]
  rw [r2] at CS
  clear k1 k2 k3
  go_enter Tryz.func137,Tryz.ntmps137
  have hm:=Own.nil w
  go_wp2_with (first
   |(go_at_call 182;refine cB (CS.out _) hm ?_;clear hm;intro w1 hm)
   |(with_reducible refine wl _ 0 hm ?_)
   |(with_reducible refine wla _ 0 hm ?_)
   |(with_reducible refine wla _ 1 hm ?_)
   |(with_reducible refine ws _ 0 hm ?_;clear hm;intro w hm)
   |(with_reducible refine wa _ hm Ja ?_;clear hm;intro w g hm)
   |(with_reducible refine wb hm ?_;clear hm;intro w g hm))
  (refine bodyPost_ret (Ae rfl rfl (hm.row 0 rfl) (ag rfl)) rfl ?_)
  exact ⟨rfl,hm.below⟩
 ·have r1:decide (n<=most)=false:=decide_eq_false k1
  have r2:decide (c < 128)=false:=decide_eq_false k2
  have r3:decide (0 < n)=true:=decide_eq_true k3
  rw [r2,show decide (n<=most/\(128<=c\/0 < n))=false by exact decide_eq_false (by omega)]
  rw [r2] at CS
  clear k1 k2 k3
  go_enter Tryz.func137,Tryz.ntmps137
  have hm:=Own.nil w
  go_wp2_with (first
   |(go_at_call 182;refine cB (CS.out _) hm ?_;clear hm;intro w1 hm)
   |(with_reducible refine wl _ 0 hm ?_)
   |(with_reducible refine wla _ 0 hm ?_)
   |(with_reducible refine wla _ 1 hm ?_)
   |(with_reducible refine ws _ 0 hm ?_;clear hm;intro w hm)
   |(with_reducible refine wa _ hm Ja ?_;clear hm;intro w g hm)
   |(with_reducible refine wb hm ?_;clear hm;intro w g hm))
  (refine bodyPost_ret (Ae rfl rfl (hm.row 0 rfl) (ag rfl)) rfl ?_)
  exact ⟨rfl,hm.below⟩
 ·have r1:decide (n<=most)=false:=decide_eq_false k1
  have r2:decide (c < 128)=false:=decide_eq_false k2
  have r3:decide (0 < n)=false:=decide_eq_false k3
  rw [r2,show decide (n<=most/\(128<=c\/0 < n))=false by exact decide_eq_false (by omega)]
  rw [r2] at CS
  clear k1 k2 k3
  go_enter Tryz.func137,Tryz.ntmps137
  have hm:=Own.nil w
  go_wp2_with (first
   |(go_at_call 182;refine cB (CS.out _) hm ?_;clear hm;intro w1 hm)
   |(with_reducible refine wl _ 0 hm ?_)
   |(with_reducible refine wla _ 0 hm ?_)
   |(with_reducible refine wla _ 1 hm ?_)
   |(with_reducible refine ws _ 0 hm ?_;clear hm;intro w hm)
   |(with_reducible refine wa _ hm Ja ?_;clear hm;intro w g hm)
   |(with_reducible refine wb hm ?_;clear hm;intro w g hm))
  (refine bodyPost_ret (Ae rfl rfl (hm.row 0 rfl) (ag rfl)) rfl ?_)
  exact ⟨rfl,hm.below⟩
set_option maxHeartbeats 4000000
set_option maxRecDepth 100000
@[reducible] def MS (a V M m p s k:Int):Array Value:=#[.int .i64 a,.int .i64 V,.int .i64 M,.int .i64 m,.int .i64 p,.int .u32 s,.int .i64 k]
theorem A1r (s k:Int) (k0:0<=k) (k1:k<=3) (s0:0<=s) (s1:s < 2 ^ (8 * k).toNat) (w:World):Calls Tryz.prog 183 #[.int .u32 s,.int .i64 k] w (RB w (.bool true)):=by
 have w1:wi k 0 3=true:=Eu k0 k1
 have q0:k=0\/k=1\/k=2\/k=3:=by omega
 clear k0 k1
 rcases q0 with rfl|rfl|rfl|rfl
 ·have hs:s < 1:=s1
  have q2:s / 1=0:=by omega
  clear s1
  go_enter Tryz.func183,Tryz.ntmps183
  have hm:=Own.nil w
  go_wp2_with ((go_at_call 100;refine (FX _ _ _ _).mono ?_;rintro e w1 ⟨rfl,rfl⟩))
  go_ret
  exact ⟨rb (by simp [*]),hm.below⟩
 ·have hs:s < 256:=s1
  have q2:s / 256=0:=by omega
  clear s1
  go_enter Tryz.func183,Tryz.ntmps183
  have hm:=Own.nil w
  go_wp2_with ((go_at_call 100;refine (FX _ _ _ _).mono ?_;rintro e w1 ⟨rfl,rfl⟩))
  go_ret
  exact ⟨rb (by simp [*]),hm.below⟩
 ·have hs:s < 65536:=s1
  have q2:s / 65536=0:=by omega
  clear s1
  go_enter Tryz.func183,Tryz.ntmps183
  have hm:=Own.nil w
  go_wp2_with ((go_at_call 100;refine (FX _ _ _ _).mono ?_;rintro e w1 ⟨rfl,rfl⟩))
  go_ret
  exact ⟨rb (by simp [*]),hm.below⟩
 have hs:s < 16777216:=s1
 have q2:s / 16777216=0:=by omega
 clear s1
 go_enter Tryz.func183,Tryz.ntmps183
 have hm:=Own.nil w
 go_wp2_with ((go_at_call 100;refine (FX _ _ _ _).mono ?_;rintro e w1 ⟨rfl,rfl⟩))
 go_ret
 exact ⟨rb (by simp [*]),hm.below⟩
theorem Sr (n:Int) (n0:1<=n) (n1:n<=65536)  (w:World):Calls Tryz.prog 142 #[.int .i64 n,.agg (MS 0 0 0 0 0 0 0)] w (RB w (.bool true)):=by
 have wn:wi n 1 65536=true:=Eu n0 n1
 have w0_:wi 0 1 n=false:=Ri (by omega)
 go_enter Tryz.func142,Tryz.ntmps142
 have hm:=Own.nil w
 go_wp2_with (first
  |(go_at_call 100;refine (FX _ _ _ _).mono ?_;rintro e w1 ⟨rfl,rfl⟩)
  |(with_reducible refine wl _ 0 hm ?_)
  |(with_reducible refine wl _ 1 hm ?_)
  |(refine A8 rfl (ld3 0 hm rfl rfl rfl (ag rfl) rfl rfl rfl) ?_)
  |(with_reducible refine wla _ 1 hm ?_)
  |(with_reducible refine ws _ 0 hm ?_;clear hm;intro w hm)
  |(with_reducible refine wa _ hm qh ?_;clear hm;intro w g hm)
  |(with_reducible refine wb hm ?_;clear hm;intro w g hm))
 go_ret
 exact ⟨rfl,hm.below⟩
theorem O6 (n:Int) (n0:1<=n) (n1:n<=65536) (V M:Int) (hv:DX V M=true) (hM0:0<=M) (hM:M<=4) (hV:V<=n) (w:World):Calls Tryz.prog 142 #[.int .i64 n,.agg (MS 1 V M 0 0 0 0)] w (RB w (.bool true)):=by
 have wn:wi n 1 65536=true:=Eu n0 n1
 have w0_:wi 0 1 n=false:=Ri (by omega)
 have CC:Hid (∀ w,Calls Tryz.prog 181 #[.agg (VN V M),.int .i64 n] w (RB w (.bool true))):=Lib.hid fun w=>by have:=hcomes V M n hM0 hM w;rwa [hv,decide_eq_true hV] at this
 clear hv hV
 go_enter Tryz.func142,Tryz.ntmps142
 have hm:=Own.nil w
 go_wp2_with (first
  |(go_at_call 100;refine (FX _ _ _ _).mono ?_;rintro e w1 ⟨rfl,rfl⟩)
  |(go_at_call 181;refine cB (CC.out _) hm ?_;clear hm;intro w1 hm)
  |(with_reducible refine wl _ 0 hm ?_)
  |(with_reducible refine wl _ 1 hm ?_)
  |(refine A8 rfl (ld3 0 hm rfl rfl rfl (ag rfl) rfl rfl rfl) ?_)
  |(refine A8 rfl (ld2 1 hm rfl rfl rfl (ag rfl) rfl rfl) ?_)
  |(with_reducible refine wla _ 1 hm ?_)
  |(with_reducible refine ws _ 0 hm ?_;clear hm;intro w hm)
  |(with_reducible refine wa _ hm qh ?_;clear hm;intro w g hm)
  |(with_reducible refine wb hm ?_;clear hm;intro w g hm))
 go_ret
 exact ⟨rfl,hm.below⟩
theorem O5 (n:Int) (n0:1<=n) (n1:n<=65536) (V M m:Int) (m0:1<=m) (m1:m<=n) (hv:DX V M=true) (hM0:0<=M) (hM:M<=4) (hV:V<=m) (w:World):Calls Tryz.prog 142 #[.int .i64 n,.agg (MS 2 V M m 0 0 0)] w (RB w (.bool true)):=by
 have wn:wi n 1 65536=true:=Eu n0 n1
 have wm:wi m 1 n=true:=Eu m0 m1
 have wp:wi 0 1 m=false:=Ri (by omega)
 have CC:Hid (∀ w,Calls Tryz.prog 181 #[.agg (VN V M),.int .i64 m] w (RB w (.bool true))):=Lib.hid fun w=>by have:=hcomes V M m hM0 hM w;rwa [hv,decide_eq_true hV] at this
 clear hv hV
 go_enter Tryz.func142,Tryz.ntmps142
 have hm:=Own.nil w
 go_wp2_with (first
  |(go_at_call 100;refine (FX _ _ _ _).mono ?_;rintro e w1 ⟨rfl,rfl⟩)
  |(go_at_call 181;refine cB (CC.out _) hm ?_;clear hm;intro w1 hm)
  |(with_reducible refine wl _ 0 hm ?_)
  |(with_reducible refine wl _ 1 hm ?_)
  |(refine A8 rfl (ld3 0 hm rfl rfl rfl (ag rfl) rfl rfl rfl) ?_)
  |(refine A8 rfl (ld2 1 hm rfl rfl rfl (ag rfl) rfl rfl) ?_)
  |(with_reducible refine wla _ 1 hm ?_)
  |(with_reducible refine ws _ 0 hm ?_;clear hm;intro w hm)
  |(with_reducible refine wa _ hm qh ?_;clear hm;intro w g hm)
  |(with_reducible refine wb hm ?_;clear hm;intro w g hm))
 go_ret
 exact ⟨rfl,hm.below⟩
theorem Yt (n:Int) (n0:1<=n) (n1:n<=65536) (m p:Int) (m0:1<=m) (m1:m<=n) (p0:1<=p) (p1:p<=m) (s k:Int) (k0:0<=k) (k1:k<=3) (s0:0<=s) (s1:s < 2 ^ (8 * k).toNat) (w:World):Calls Tryz.prog 142 #[.int .i64 n,.agg (MS 3 0 0 m p s k)] w (RB w (.bool true)):=by
 have wn:wi n 1 65536=true:=Eu n0 n1
 have wm:wi m 1 n=true:=Eu m0 m1
 have wp:wi p 1 m=true:=Eu p0 p1
 have CS:Hid (∀ w,Calls Tryz.prog 183 #[.int .u32 s,.int .i64 k] w (RB w (.bool true))):=Lib.hid fun w=>A1r s k k0 k1 s0 s1 w
 clear s1
 go_enter Tryz.func142,Tryz.ntmps142
 have hm:=Own.nil w
 go_wp2_with (first
  |(go_at_call 100;refine (FX _ _ _ _).mono ?_;rintro e w1 ⟨rfl,rfl⟩)
  |(go_at_call 183;refine cB (CS.out _) hm ?_;clear hm;intro w1 hm)
  |(with_reducible refine wl _ 0 hm ?_)
  |(with_reducible refine wl _ 1 hm ?_)
  |(refine A8 rfl (ld3 0 hm rfl rfl rfl (ag rfl) rfl rfl rfl) ?_)
  |(refine A8 rfl (ld2 1 hm rfl rfl rfl (ag rfl) rfl rfl) ?_)
  |(with_reducible refine ws _ 0 hm ?_;clear hm;intro w hm)
  |(with_reducible refine wa _ hm qh ?_;clear hm;intro w g hm)
  |(with_reducible refine wb hm ?_;clear hm;intro w g hm))
 go_ret
 exact ⟨rfl,hm.below⟩
theorem Yr (n:Int) (n0:1<=n) (n1:n<=65536) (s k:Int) (k0:0<=k) (k1:k<=3) (s0:0<=s) (s1:s < 2 ^ (8 * k).toNat) (w:World):Calls Tryz.prog 142 #[.int .i64 n,.agg (MS 5 0 0 0 0 s k)] w (RB w (.bool true)):=by
 have wn:wi n 1 65536=true:=Eu n0 n1
 have w0_:wi 0 1 n=false:=Ri (by omega)
 have CS:Hid (∀ w,Calls Tryz.prog 183 #[.int .u32 s,.int .i64 k] w (RB w (.bool true))):=Lib.hid fun w=>A1r s k k0 k1 s0 s1 w
 clear s1
 go_enter Tryz.func142,Tryz.ntmps142
 have hm:=Own.nil w
 go_wp2_with (first
  |(go_at_call 100;refine (FX _ _ _ _).mono ?_;rintro e w1 ⟨rfl,rfl⟩)
  |(go_at_call 183;refine cB (CS.out _) hm ?_;clear hm;intro w1 hm)
  |(with_reducible refine wl _ 0 hm ?_)
  |(with_reducible refine wl _ 1 hm ?_)
  |(refine A8 rfl (ld3 0 hm rfl rfl rfl (ag rfl) rfl rfl rfl) ?_)
  |(with_reducible refine wla _ 1 hm ?_)
  |(with_reducible refine ws _ 0 hm ?_;clear hm;intro w hm)
  |(with_reducible refine wa _ hm qh ?_;clear hm;intro w g hm)
  |(with_reducible refine wb hm ?_;clear hm;intro w g hm))
 go_ret
 exact ⟨rfl,hm.below⟩
set_option maxHeartbeats 1000000
set_option maxRecDepth 100000
@[reducible] def HS (a V M n:Int):Array Value:=#[.int .i64 a,.int .i64 V,.int .i64 M,.int .i64 n]
theorem Jj (k:Int) (h0:0<=k) (h1:k<=2) (w:World):Calls Tryz.prog 136 #[.agg (HS k 0 0 0)] w (RB w (.bool true)):=by
 have q0:k=0\/k=1\/k=2:=by omega
 have CW:Hid (∀ w,Calls Tryz.prog 100 #[.int .i64 k,.int .i64 0,.int .i64 3] w fun x w'=>(x=.returned (.bool true))/\w'=w):=Lib.hid fun w=>by have:=FX k 0 3 w;rwa [Eu h0 (by omega)] at this
 clear h0 h1
 rcases q0 with rfl|rfl|rfl
 ·go_enter Tryz.func136,Tryz.ntmps136
  have hm:=Own.nil w
  go_wp2_with (first
   |(go_at_call 100;refine (CW.out _).mono ?_;rintro e w1 ⟨rfl,rfl⟩)
   |(with_reducible refine wl _ 0 hm ?_)
   |(with_reducible refine wla _ 0 hm ?_)
   |(with_reducible refine wb hm ?_;clear hm;intro w g hm))
  go_ret
  exact ⟨rfl,hm.below⟩
 ·go_enter Tryz.func136,Tryz.ntmps136
  have hm:=Own.nil w
  go_wp2_with (first
   |(go_at_call 100;refine (CW.out _).mono ?_;rintro e w1 ⟨rfl,rfl⟩)
   |(with_reducible refine wl _ 0 hm ?_)
   |(with_reducible refine wla _ 0 hm ?_)
   |(with_reducible refine wb hm ?_;clear hm;intro w g hm))
  go_ret
  exact ⟨rfl,hm.below⟩
 go_enter Tryz.func136,Tryz.ntmps136
 have hm:=Own.nil w
 go_wp2_with (first
  |(go_at_call 100;refine (CW.out _).mono ?_;rintro e w1 ⟨rfl,rfl⟩)
  |(with_reducible refine wl _ 0 hm ?_)
  |(with_reducible refine wla _ 0 hm ?_)
  |(with_reducible refine wb hm ?_;clear hm;intro w g hm))
 go_ret
 exact ⟨rfl,hm.below⟩
theorem Tn (V M:Int) (hv:DX V M=true) (hM0:0<=M) (hM:M<=4) (hV:V<=65536) (w:World):Calls Tryz.prog 136 #[.agg (HS 3 V M 0)] w (RB w (.bool true)):=by
 have CC:Hid (∀ w,Calls Tryz.prog 181 #[.agg (VN V M),.int .i64 65536] w (RB w (.bool true))):=Lib.hid fun w=>by have:=hcomes V M 65536 hM0 hM w;rwa [hv,decide_eq_true hV] at this
 clear hv
 go_enter Tryz.func136,Tryz.ntmps136
 have hm:=Own.nil w
 go_wp2_with (first
  |(go_at_call 181;refine cB (CC.out _) hm ?_;clear hm;intro w1 hm)
  |(with_reducible refine wl _ 0 hm ?_)
  |(refine A8 rfl (ld2 0 hm rfl rfl rfl (ag rfl) rfl rfl) ?_)
  |(with_reducible refine wb hm ?_;clear hm;intro w g hm))
 go_ret
 exact ⟨rfl,hm.below⟩
theorem vU  (w:World):Calls Tryz.prog 98 #[.agg (HS 0 0 0 0),.int .u8 87] w (RB w (.tuple #[.agg (HS 1 0 0 0),.bool false,.int .i64 0])):=by
 have CV:Hid (∀ w,Calls Tryz.prog 136 #[.agg (HS 0 0 0 0)] w (RB w (.bool true))):=Lib.hid fun w=>Jj 0 (by omega) (by omega) w
 go_enter Tryz.func98,Tryz.ntmps98
 have hm:=Own.nil w
 go_wp2_with (first
  |(go_at_call 136;refine cB (CV.out _) hm ?_;clear hm;intro w1 hm)
  |(with_reducible refine wl _ 1 hm ?_)
  |(with_reducible refine wla _ 1 hm ?_)
  |(with_reducible refine ws _ 0 hm ?_;clear hm;intro w hm)
  |(with_reducible refine wa _ hm NK ?_;clear hm;intro w g hm)
  |(with_reducible refine wb hm ?_;clear hm;intro w g hm))
 (refine bodyPost_ret (Ae rfl rfl (hm.row 0 rfl) (ag rfl)) rfl ?_)
 exact ⟨rfl,hm.below⟩
theorem vN (c:Int) (hc:c ≠ 87) (w:World):Calls Tryz.prog 98 #[.agg (HS 0 0 0 0),.int .u8 c] w (RB w (.tuple #[.agg (HS 0 0 0 0),.bool false,.int .i64 240])):=by
 have CV:Hid (∀ w,Calls Tryz.prog 136 #[.agg (HS 0 0 0 0)] w (RB w (.bool true))):=Lib.hid fun w=>Jj 0 (by omega) (by omega) w
 have q1:(c == ((({ data:=#[87,80,1] }:ByteArray)[0]'(by decide)).toNat:Int))=false:=(by simpa using hc:(c == 87)=false)
 clear hc
 go_enter Tryz.func98,Tryz.ntmps98
 have hm:=Own.nil w
 go_wp2_with (first
  |(go_at_call 136;refine cB (CV.out _) hm ?_;clear hm;intro w1 hm)
  |(with_reducible refine wl _ 1 hm ?_)
  |(with_reducible refine wla _ 0 hm ?_)
  |(with_reducible refine wla _ 1 hm ?_)
  |(with_reducible refine ws _ 0 hm ?_;clear hm;intro w hm)
  |(with_reducible refine wa _ hm NK ?_;clear hm;intro w g hm)
  |(with_reducible refine wb hm ?_;clear hm;intro w g hm))
 (refine bodyPost_ret (Ae rfl rfl (hm.row 0 rfl) (ag rfl)) rfl ?_)
 exact ⟨rfl,hm.below⟩
theorem vS  (w:World):Calls Tryz.prog 98 #[.agg (HS 1 0 0 0),.int .u8 80] w (RB w (.tuple #[.agg (HS 2 0 0 0),.bool false,.int .i64 0])):=by
 have CV:Hid (∀ w,Calls Tryz.prog 136 #[.agg (HS 1 0 0 0)] w (RB w (.bool true))):=Lib.hid fun w=>Jj 1 (by omega) (by omega) w
 go_enter Tryz.func98,Tryz.ntmps98
 have hm:=Own.nil w
 go_wp2_with (first
  |(go_at_call 136;refine cB (CV.out _) hm ?_;clear hm;intro w1 hm)
  |(with_reducible refine wl _ 1 hm ?_)
  |(with_reducible refine wla _ 1 hm ?_)
  |(with_reducible refine ws _ 0 hm ?_;clear hm;intro w hm)
  |(with_reducible refine wa _ hm NK ?_;clear hm;intro w g hm)
  |(with_reducible refine wb hm ?_;clear hm;intro w g hm))
 (refine bodyPost_ret (Ae rfl rfl (hm.row 0 rfl) (ag rfl)) rfl ?_)
 exact ⟨rfl,hm.below⟩
theorem vM (c:Int) (hc:c ≠ 80) (w:World):Calls Tryz.prog 98 #[.agg (HS 1 0 0 0),.int .u8 c] w (RB w (.tuple #[.agg (HS 0 0 0 0),.bool false,.int .i64 240])):=by
 have CV:Hid (∀ w,Calls Tryz.prog 136 #[.agg (HS 1 0 0 0)] w (RB w (.bool true))):=Lib.hid fun w=>Jj 1 (by omega) (by omega) w
 have q1:(c == ((({ data:=#[87,80,1] }:ByteArray)[1]'(by decide)).toNat:Int))=false:=(by simpa using hc:(c == 80)=false)
 clear hc
 go_enter Tryz.func98,Tryz.ntmps98
 have hm:=Own.nil w
 go_wp2_with (first
  |(go_at_call 136;refine cB (CV.out _) hm ?_;clear hm;intro w1 hm)
  |(with_reducible refine wl _ 1 hm ?_)
  |(with_reducible refine wla _ 0 hm ?_)
  |(with_reducible refine wla _ 1 hm ?_)
  |(with_reducible refine ws _ 0 hm ?_;clear hm;intro w hm)
  |(with_reducible refine wa _ hm NK ?_;clear hm;intro w g hm)
  |(with_reducible refine wb hm ?_;clear hm;intro w g hm))
 (refine bodyPost_ret (Ae rfl rfl (hm.row 0 rfl) (ag rfl)) rfl ?_)
 exact ⟨rfl,hm.below⟩
theorem vP  (w:World):Calls Tryz.prog 98 #[.agg (HS 2 0 0 0),.int .u8 1] w (RB w (.tuple #[.agg (HS 3 0 0 0),.bool false,.int .i64 0])):=by
 have CV:Hid (∀ w,Calls Tryz.prog 136 #[.agg (HS 2 0 0 0)] w (RB w (.bool true))):=Lib.hid fun w=>Jj 2 (by omega) (by omega) w
 go_enter Tryz.func98,Tryz.ntmps98
 have hm:=Own.nil w
 go_wp2_with (first
  |(go_at_call 136;refine cB (CV.out _) hm ?_;clear hm;intro w1 hm)
  |(with_reducible refine wl _ 1 hm ?_)
  |(with_reducible refine wla _ 1 hm ?_)
  |(with_reducible refine ws _ 0 hm ?_;clear hm;intro w hm)
  |(with_reducible refine wa _ hm NK ?_;clear hm;intro w g hm)
  |(with_reducible refine wb hm ?_;clear hm;intro w g hm))
 (refine bodyPost_ret (Ae rfl rfl (hm.row 0 rfl) (ag rfl)) rfl ?_)
 exact ⟨rfl,hm.below⟩
theorem vK (c:Int) (hc:c ≠ 1) (w:World):Calls Tryz.prog 98 #[.agg (HS 2 0 0 0),.int .u8 c] w (RB w (.tuple #[.agg (HS 0 0 0 0),.bool false,.int .i64 241])):=by
 have CV:Hid (∀ w,Calls Tryz.prog 136 #[.agg (HS 2 0 0 0)] w (RB w (.bool true))):=Lib.hid fun w=>Jj 2 (by omega) (by omega) w
 have q1:(c == ((({ data:=#[87,80,1] }:ByteArray)[2]'(by decide)).toNat:Int))=false:=(by simpa using hc:(c == 1)=false)
 clear hc
 go_enter Tryz.func98,Tryz.ntmps98
 have hm:=Own.nil w
 go_wp2_with (first
  |(go_at_call 136;refine cB (CV.out _) hm ?_;clear hm;intro w1 hm)
  |(with_reducible refine wl _ 1 hm ?_)
  |(with_reducible refine wla _ 0 hm ?_)
  |(with_reducible refine wla _ 1 hm ?_)
  |(with_reducible refine ws _ 0 hm ?_;clear hm;intro w hm)
  |(with_reducible refine wa _ hm NK ?_;clear hm;intro w g hm)
  |(with_reducible refine wb hm ?_;clear hm;intro w g hm))
 (refine bodyPost_ret (Ae rfl rfl (hm.row 0 rfl) (ag rfl)) rfl ?_)
 exact ⟨rfl,hm.below⟩
theorem vO (V M c:Int) (hv:DX V M=true) (hM0:0<=M) (hM:M<=4) (hV:V<=65536) (c0:0<=c) (c1:c<=255) (ho:EL V M c 65536=false) (w:World):Calls Tryz.prog 98 #[.agg (HS 3 V M 0),.int .u8 c] w (RB w (.tuple #[.agg (HS 0 0 0 0),.bool false,.int .i64 242])):=by
 have CV:Hid (∀ w,Calls Tryz.prog 136 #[.agg (HS 3 V M 0)] w (RB w (.bool true))):=Lib.hid fun w=>Tn V M hv hM0 hM hV w
 have CG:=fun w=>hgrow V M c 65536 hv hM0 hM hV c0 c1 w
 simp only [ho] at CG
 have CG:=Lib.hid CG
 clear hv
 generalize D5 V M c=x at *
 generalize EM M c=y at *
 clear ho
 generalize EZ M c=z at *
 go_enter Tryz.func98,Tryz.ntmps98
 have hm:=Own.nil w
 go_wp2_with (first
  |(go_at_call 136;refine cB (CV.out _) hm ?_;clear hm;intro w1 hm)
  |(go_at_call 137;refine cB (CG.out _) hm ?_;clear hm;intro w1 hm)
  |(with_reducible refine wl _ 1 hm ?_)
  |(refine A8 rfl (ld2 1 hm rfl rfl rfl (ag rfl) rfl rfl) ?_)
  |(with_reducible refine wla _ 1 hm ?_)
  |(with_reducible refine ws _ 0 hm ?_;clear hm;intro w hm)
  |(with_reducible refine ws _ 1 hm ?_;clear hm;intro w hm)
  |(with_reducible refine wa _ hm Ja ?_;clear hm;intro w g hm)
  |(with_reducible refine wa _ hm NK ?_;clear hm;intro w g hm)
  |(with_reducible refine wb hm ?_;clear hm;intro w g hm))
 (refine bodyPost_ret (Ae rfl rfl (hm.row 1 rfl) (ag rfl)) rfl ?_)
 exact ⟨rfl,hm.below⟩
theorem nD (V M c:Int) (hv:DX V M=true) (hM0:0<=M) (hM:M<=4) (hV:V<=65536) (c0:0<=c) (c1:c<=255) (ho:EL V M c 65536=true) (hd:EZ M c=true) (w:World):Calls Tryz.prog 98 #[.agg (HS 3 V M 0),.int .u8 c] w (RB w (.tuple #[.agg (HS 4 0 0 (D5 V M c)),.bool true,.int .i64 0])):=by
 have CV:Hid (∀ w,Calls Tryz.prog 136 #[.agg (HS 3 V M 0)] w (RB w (.bool true))):=Lib.hid fun w=>Tn V M hv hM0 hM hV w
 have CG:=fun w=>hgrow V M c 65536 hv hM0 hM hV c0 c1 w
 simp only [ho,hd] at CG
 have CG:=Lib.hid CG
 clear hv
 generalize D5 V M c=x at *
 generalize EM M c=y at *
 clear ho
 clear hd
 go_enter Tryz.func98,Tryz.ntmps98
 have hm:=Own.nil w
 go_wp2_with (first
  |(go_at_call 136;refine cB (CV.out _) hm ?_;clear hm;intro w1 hm)
  |(go_at_call 137;refine cB (CG.out _) hm ?_;clear hm;intro w1 hm)
  |(with_reducible refine wl _ 0 hm ?_)
  |(with_reducible refine wl _ 1 hm ?_)
  |(refine A8 rfl (ld2 1 hm rfl rfl rfl (ag rfl) rfl rfl) ?_)
  |(with_reducible refine wla _ 1 hm ?_)
  |(with_reducible refine ws _ 0 hm ?_;clear hm;intro w hm)
  |(with_reducible refine ws _ 1 hm ?_;clear hm;intro w hm)
  |(with_reducible refine wa _ hm Ja ?_;clear hm;intro w g hm)
  |(with_reducible refine wa _ hm NK ?_;clear hm;intro w g hm)
  |(with_reducible refine wb hm ?_;clear hm;intro w g hm))
 (refine bodyPost_ret (Ae rfl rfl (hm.row 1 rfl) (ag rfl)) rfl ?_)
 exact ⟨rfl,hm.below⟩
theorem vW (V M c:Int) (hv:DX V M=true) (hM0:0<=M) (hM:M<=4) (hV:V<=65536) (c0:0<=c) (c1:c<=255) (ho:EL V M c 65536=true) (hd:EZ M c=false) (w:World):Calls Tryz.prog 98 #[.agg (HS 3 V M 0),.int .u8 c] w (RB w (.tuple #[.agg (HS 3 (D5 V M c) (EM M c) 0),.bool false,.int .i64 0])):=by
 have CV:Hid (∀ w,Calls Tryz.prog 136 #[.agg (HS 3 V M 0)] w (RB w (.bool true))):=Lib.hid fun w=>Tn V M hv hM0 hM hV w
 have CG:=fun w=>hgrow V M c 65536 hv hM0 hM hV c0 c1 w
 simp only [ho,hd] at CG
 have CG:=Lib.hid CG
 clear hv
 generalize D5 V M c=x at *
 generalize EM M c=y at *
 clear ho
 clear hd
 go_enter Tryz.func98,Tryz.ntmps98
 have hm:=Own.nil w
 go_wp2_with (first
  |(go_at_call 136;refine cB (CV.out _) hm ?_;clear hm;intro w1 hm)
  |(go_at_call 137;refine cB (CG.out _) hm ?_;clear hm;intro w1 hm)
  |(with_reducible refine wl _ 1 hm ?_)
  |(refine A8 rfl (ld2 0 hm rfl rfl rfl (ag rfl) rfl rfl) ?_)
  |(refine A8 rfl (ld2 1 hm rfl rfl rfl (ag rfl) rfl rfl) ?_)
  |(with_reducible refine wla _ 1 hm ?_)
  |(with_reducible refine ws _ 0 hm ?_;clear hm;intro w hm)
  |(with_reducible refine ws _ 1 hm ?_;clear hm;intro w hm)
  |(with_reducible refine wa _ hm Ja ?_;clear hm;intro w g hm)
  |(with_reducible refine wa _ hm NK ?_;clear hm;intro w g hm)
  |(with_reducible refine wb hm ?_;clear hm;intro w g hm))
 (refine bodyPost_ret (Ae rfl rfl (hm.row 1 rfl) (ag rfl)) rfl ?_)
 exact ⟨rfl,hm.below⟩
set_option maxHeartbeats 400000
set_option maxRecDepth 100000
variable {a:Act} {cs ds:Array Value} {b c d n s:Int} {l m:List Int} {M Q S:List Value} {off:Nat} {o:Oper} {x y:Operand} {P:Program} {t' ty:TypeId} {u:Value} {w:World}
def TS (l:List Int) (s:Int) (b:Int) (n:Int) (d:Int):Array Value:=(vs .u8 l++([Value.int .i64 s,Value.int .i64 b,Value.int .i64 n,Value.int .i64 d])).toArray
theorem Dy (hl:l.length=258):(TS l s b n d).size=262:=by simp [TS,Ai,hl]
theorem Bq (hl:l.length=258):Aq Tryz.prog 141 (TS l s b n d).size:=by rw [Dy hl];exact ag (by decide)
theorem Di (l:List Int) (s:Int) (b:Int) (n:Int) (d:Int):∀ v ∈ TS l s b n d,v.oneCell'=true:=by
 intro v hv
 have hv:v ∈ (vs .u8 l++([Value.int .i64 s,Value.int .i64 b,Value.int .i64 n,Value.int .i64 d])):=by simpa [TS] using hv
 simp only [List.mem_append,List.mem_cons,List.not_mem_nil,or_false] at hv
 rcases hv with h|(rfl|rfl|rfl|rfl)
 ·exact Ic .u8 _ v h
 ·rfl
 ·rfl
 ·rfl
 ·rfl
theorem A0X  (hl:l.length=258) (i:Nat) (hi:i < 258):(TS l s b n d)[i]?=some (.int .u8 (gi l i)):=by
 rw [show TS l s b n d=([]++((vs .u8 l)++([Value.int .i64 s,Value.int .i64 b,Value.int .i64 n,Value.int .i64 d]))).toArray by simp [TS,List.append_assoc]]
 have h:=UL (P:=[]) (off:=0) (S:=([Value.int .i64 s,Value.int .i64 b,Value.int .i64 n,Value.int .i64 d])) rfl (Fg .u8 l i (by omega))
 rwa [Nat.zero_add] at h
theorem aj  (hl:l.length=258) (i:Nat) (hi:i < 258) (x:Int):(TS l s b n d).setIfInBounds (i) (.int .u8 x)=TS (l.set i x) s b n d:=by
 rw [show TS l s b n d=([]++((vs .u8 l)++([Value.int .i64 s,Value.int .i64 b,Value.int .i64 n,Value.int .i64 d]))).toArray by simp [TS,List.append_assoc]]
 have h:=Y1 (P:=[]) (off:=0) (S:=([Value.int .i64 s,Value.int .i64 b,Value.int .i64 n,Value.int .i64 d])) rfl (show i < (vs .u8 l).length by rw [Ai];omega) (.int .u8 x)
 rw [aK] at h
 rw [Nat.zero_add] at h
 rw [h]
 simp [TS,List.append_assoc]
theorem Jv  (hl:l.length=258):(TS l s b n d).extract 0 (0+(J .u8 l).size)=J .u8 l:=by
 rw [show TS l s b n d=([]++((vs .u8 l)++([Value.int .i64 s,Value.int .i64 b,Value.int .i64 n,Value.int .i64 d]))).toArray by simp [TS,List.append_assoc],Df,hl]
 have h:=Xl (P:=[]) (M:=(vs .u8 l)) (S:=([Value.int .i64 s,Value.int .i64 b,Value.int .i64 n,Value.int .i64 d])) (off:=0) (n:=258) rfl (by rw [Ai,hl])
 exact h
theorem L9 (hl:l.length=258):0+(J .u8 l).size<=(TS l s b n d).size:=by rw [Dy hl,Df,hl];omega
theorem CJ (hl:l.length=258):(TS l s b n d)[258]?=some (Value.int .i64 s):=by
 rw [show TS l s b n d=((vs .u8 l)++(([Value.int .i64 s,Value.int .i64 b,Value.int .i64 n,Value.int .i64 d])++[])).toArray by simp [TS,List.append_assoc]]
 exact UL (P:=(vs .u8 l)) (off:=258) (i:=0) (S:=[]) (by simp [Ai,hl]) rfl
theorem ah (hl:l.length=258) (x:Int):(TS l s b n d).setIfInBounds 258 (Value.int .i64 x)=TS l x b n d:=by
 rw [show TS l s b n d=((vs .u8 l)++(([Value.int .i64 s,Value.int .i64 b,Value.int .i64 n,Value.int .i64 d])++[])).toArray by simp [TS,List.append_assoc]]
 have h:=Y1 (P:=(vs .u8 l)) (off:=258) (i:=0) (S:=[]) (by simp [Ai,hl]) (show 0 < ([Value.int .i64 s,Value.int .i64 b,Value.int .i64 n,Value.int .i64 d]).length by simp) (Value.int .i64 x)
 rw [h]
 simp [TS,List.append_assoc]
theorem kD (hl:l.length=258):258 < (TS l s b n d).size:=by rw [Dy hl];omega
theorem Cb (hl:l.length=258):(TS l s b n d)[259]?=some (Value.int .i64 b):=by
 rw [show TS l s b n d=((vs .u8 l)++(([Value.int .i64 s,Value.int .i64 b,Value.int .i64 n,Value.int .i64 d])++[])).toArray by simp [TS,List.append_assoc]]
 exact UL (P:=(vs .u8 l)) (off:=258) (i:=1) (S:=[]) (by simp [Ai,hl]) rfl
theorem GY (hl:l.length=258) (x:Int):(TS l s b n d).setIfInBounds 259 (Value.int .i64 x)=TS l s x n d:=by
 rw [show TS l s b n d=((vs .u8 l)++(([Value.int .i64 s,Value.int .i64 b,Value.int .i64 n,Value.int .i64 d])++[])).toArray by simp [TS,List.append_assoc]]
 have h:=Y1 (P:=(vs .u8 l)) (off:=258) (i:=1) (S:=[]) (by simp [Ai,hl]) (show 1 < ([Value.int .i64 s,Value.int .i64 b,Value.int .i64 n,Value.int .i64 d]).length by simp) (Value.int .i64 x)
 rw [h]
 simp [TS,List.append_assoc]
theorem Es (hl:l.length=258):259 < (TS l s b n d).size:=by rw [Dy hl];omega
theorem CQ (hl:l.length=258):(TS l s b n d)[260]?=some (Value.int .i64 n):=by
 rw [show TS l s b n d=((vs .u8 l)++(([Value.int .i64 s,Value.int .i64 b,Value.int .i64 n,Value.int .i64 d])++[])).toArray by simp [TS,List.append_assoc]]
 exact UL (P:=(vs .u8 l)) (off:=258) (i:=2) (S:=[]) (by simp [Ai,hl]) rfl
theorem IE (hl:l.length=258) (x:Int):(TS l s b n d).setIfInBounds 260 (Value.int .i64 x)=TS l s b x d:=by
 rw [show TS l s b n d=((vs .u8 l)++(([Value.int .i64 s,Value.int .i64 b,Value.int .i64 n,Value.int .i64 d])++[])).toArray by simp [TS,List.append_assoc]]
 have h:=Y1 (P:=(vs .u8 l)) (off:=258) (i:=2) (S:=[]) (by simp [Ai,hl]) (show 2 < ([Value.int .i64 s,Value.int .i64 b,Value.int .i64 n,Value.int .i64 d]).length by simp) (Value.int .i64 x)
 rw [h]
 simp [TS,List.append_assoc]
theorem JX (hl:l.length=258):260 < (TS l s b n d).size:=by rw [Dy hl];omega
theorem E8 (hl:l.length=258):(TS l s b n d)[261]?=some (Value.int .i64 d):=by
 rw [show TS l s b n d=((vs .u8 l)++(([Value.int .i64 s,Value.int .i64 b,Value.int .i64 n,Value.int .i64 d])++[])).toArray by simp [TS,List.append_assoc]]
 exact UL (P:=(vs .u8 l)) (off:=258) (i:=3) (S:=[]) (by simp [Ai,hl]) rfl
theorem GX (hl:l.length=258) (x:Int):(TS l s b n d).setIfInBounds 261 (Value.int .i64 x)=TS l s b n x:=by
 rw [show TS l s b n d=((vs .u8 l)++(([Value.int .i64 s,Value.int .i64 b,Value.int .i64 n,Value.int .i64 d])++[])).toArray by simp [TS,List.append_assoc]]
 have h:=Y1 (P:=(vs .u8 l)) (off:=258) (i:=3) (S:=[]) (by simp [Ai,hl]) (show 3 < ([Value.int .i64 s,Value.int .i64 b,Value.int .i64 n,Value.int .i64 d]).length by simp) (Value.int .i64 x)
 rw [h]
 simp [TS,List.append_assoc]
theorem Dz (hl:l.length=258):261 < (TS l s b n d).size:=by rw [Dy hl];omega
def CS (l:List Int) (c:Int) (b:Int):Array Value:=(vs .u8 l++([Value.int .i64 c,Value.int .i64 b])).toArray
theorem CU (hl:l.length=258):(CS l c b).size=260:=by simp [CS,Ai,hl]
theorem DT (hl:l.length=258):Aq Tryz.prog 143 (CS l c b).size:=by rw [CU hl];exact ag (by decide)
theorem Eb (l:List Int) (c:Int) (b:Int):∀ v ∈ CS l c b,v.oneCell'=true:=by
 intro v hv
 have hv:v ∈ (vs .u8 l++([Value.int .i64 c,Value.int .i64 b])):=by simpa [CS] using hv
 simp only [List.mem_append,List.mem_cons,List.not_mem_nil,or_false] at hv
 rcases hv with h|(rfl|rfl)
 ·exact Ic .u8 _ v h
 ·rfl
 ·rfl
theorem II  (hl:l.length=258):(CS l c b).extract 0 (0+(J .u8 l).size)=J .u8 l:=by
 rw [show CS l c b=([]++((vs .u8 l)++([Value.int .i64 c,Value.int .i64 b]))).toArray by simp [CS,List.append_assoc],Df,hl]
 have h:=Xl (P:=[]) (M:=(vs .u8 l)) (S:=([Value.int .i64 c,Value.int .i64 b])) (off:=0) (n:=258) rfl (by rw [Ai,hl])
 exact h
theorem IJ (hl:l.length=258):0+(J .u8 l).size<=(CS l c b).size:=by rw [CU hl,Df,hl];omega
theorem aA  (hl:l.length=258) (hm:m.length=258):splice (CS l c b) 0 (J .u8 m)=CS m c b:=by
 rw [show CS l c b=([]++((vs .u8 l)++([Value.int .i64 c,Value.int .i64 b]))).toArray by simp [CS,List.append_assoc]]
 have h:=bn (P:=[]) (M:=(vs .u8 l)) (M2:=vs .u8 m) (S:=([Value.int .i64 c,Value.int .i64 b])) (off:=0) rfl (by rw [Ai,Ai,hl,hm])
 rw [show J .u8 m=(vs .u8 m).toArray from rfl,h]
 simp [CS,List.append_assoc]
theorem LZ (hl:l.length=258):(CS l c b)[258]?=some (Value.int .i64 c):=by
 rw [show CS l c b=((vs .u8 l)++(([Value.int .i64 c,Value.int .i64 b])++[])).toArray by simp [CS,List.append_assoc]]
 exact UL (P:=(vs .u8 l)) (off:=258) (i:=0) (S:=[]) (by simp [Ai,hl]) rfl
theorem yU (hl:l.length=258) (x:Int):(CS l c b).setIfInBounds 258 (Value.int .i64 x)=CS l x b:=by
 rw [show CS l c b=((vs .u8 l)++(([Value.int .i64 c,Value.int .i64 b])++[])).toArray by simp [CS,List.append_assoc]]
 have h:=Y1 (P:=(vs .u8 l)) (off:=258) (i:=0) (S:=[]) (by simp [Ai,hl]) (show 0 < ([Value.int .i64 c,Value.int .i64 b]).length by simp) (Value.int .i64 x)
 rw [h]
 simp [CS,List.append_assoc]
theorem A13 (hl:l.length=258):258 < (CS l c b).size:=by rw [CU hl];omega
theorem Mc (hl:l.length=258):(CS l c b)[259]?=some (Value.int .i64 b):=by
 rw [show CS l c b=((vs .u8 l)++(([Value.int .i64 c,Value.int .i64 b])++[])).toArray by simp [CS,List.append_assoc]]
 exact UL (P:=(vs .u8 l)) (off:=258) (i:=1) (S:=[]) (by simp [Ai,hl]) rfl
theorem yV (hl:l.length=258) (x:Int):(CS l c b).setIfInBounds 259 (Value.int .i64 x)=CS l c x:=by
 rw [show CS l c b=((vs .u8 l)++(([Value.int .i64 c,Value.int .i64 b])++[])).toArray by simp [CS,List.append_assoc]]
 have h:=Y1 (P:=(vs .u8 l)) (off:=258) (i:=1) (S:=[]) (by simp [Ai,hl]) (show 1 < ([Value.int .i64 c,Value.int .i64 b]).length by simp) (Value.int .i64 x)
 rw [h]
 simp [CS,List.append_assoc]
theorem A15 (hl:l.length=258):259 < (CS l c b).size:=by rw [CU hl];omega
theorem Jz (w:World):(zeroValue 141).run Tryz.prog w=.ok (.agg (TS Hf 0 0 0 0)) w:=by kernel_rfl
theorem QA (w:World):(zeroValue 143).run Tryz.prog w=.ok (.agg (CS Hf 0 0)) w:=by kernel_rfl
theorem part3 {n:Nat} (hQ:Q.length=off) (hn:M.length=n) (ht:Aq P ty n):(part ty (Q++(M++S)).toArray off).run P w=.ok (.agg M.toArray) w:=by
 have he:=Xl (S:=S) hQ hn
 cases hq:P.info? ty with
|none=>have:=ht.size;simp [hq] at this
|some i =>
  have hs:i.size=n:=by have:=ht.size;simpa [hq] using this
  simp only [part,ht.agg,sizeOf,typeInfo,Sem.run_bind,run_program,hq,Result.andThen_ok,Sem.run_pure,hs,if_true]
  rw [he]
theorem partc {v:Value} (ht:ET P ty) (hv:cs[off]?=some v):(part ty cs off).run P w=.ok v w:=by
 simp [part,ht.1,hv]
theorem eqf {d:Nat} {f:Field} {fs:List Field} {v:Value} (hn:f.name ≠ "_") (hu:(part f.type cs f.offset).run P w=.ok u w) (hv:(part f.type ds f.offset).run P w=.ok v w)
  {a b:Bool} (ha:(Op.equalIn (d+2) f.type u v).run P w=.ok a w) (hr:(Op.eqFields (d+2) cs ds fs).run P w=.ok b w):(Op.eqFields (d+2) cs ds (f::fs)).run P w=.ok (a && b) w:=by
 simp only [Op.eqFields,ne_eq,hn,not_false_eq_true,if_true,Sem.run_bind,hu,hv,Result.andThen_ok,ha]
 cases a<;>simp [hr]
theorem eq141 (s b n d:Int) (w:World) (hl:l.length=258):(Op.equalIn 10000 141 (.agg (TS l s b n d)) (.agg (TS l s b n d))).run Tryz.prog w=.ok true w:=by
 obtain ⟨i5,hi5⟩:=info5
 have hf:(Tryz.prog.fieldsOf 141).toList.map (fun f=>(f.name,f.type,f.offset))=[("Lengths",139,0),("Symbol",3,258),("Bits",3,259),("Now",3,260),("Way",3,261)]:=by kernel_rfl
 rw [run_equalIn_struct w 9999 141 _ _ (by kernel_rfl) (by kernel_rfl)]
 generalize (Tryz.prog.fieldsOf 141).toList=fs at hf ⊢
 rcases fs with _|⟨f0,_|⟨f1,_|⟨f2,_|⟨f3,_|⟨f4,_|⟨z,t⟩⟩⟩⟩⟩⟩
 ·simp at hf
 ·simp at hf
 ·simp at hf
 ·simp at hf
 ·simp at hf
 ·simp only [List.map_cons,List.map_nil,List.cons.injEq,Prod.mk.injEq,and_true] at hf
  obtain ⟨⟨a1,a2,a3⟩,⟨b1,b2,b3⟩,⟨c1,c2,c3⟩,⟨d1,d2,d3⟩,e1,e2,e3⟩:=hf
  rw [show (9999:Nat)=9997+2 from rfl]
  have h5:(Op.eqFields (9997+2) (TS l s b n d) (TS l s b n d) []).run Tryz.prog w=.ok true w:=by simp [Op.eqFields]
  have cell:∀ (f:Field) (o:Nat) (x:Int),f.type=3->f.offset=o->(TS l s b n d)[o]?=some (.int .i64 x)->(part f.type (TS l s b n d) f.offset).run Tryz.prog w=.ok (.int .i64 x) w:=fun f o x h1 h2 h3=>by rw [h1,h2];exact partc BG h3
  have ee:∀ (f:Field) (x:Int),f.type=3->(Op.equalIn (9997+2) f.type (.int .i64 x) (.int .i64 x)).run Tryz.prog w=.ok true w:=fun f x h1=>by rw [h1,run_equalIn_int w _ 3 .i64 .i64 x x Tryz.underlying3];simp
  have h4:=eqf (f:=f4) (by rw [e1];decide) (cell f4 _ _ e2 e3 (E8 hl)) (cell f4 _ _ e2 e3 (E8 hl)) (ee f4 d e2) h5
  have h3:=eqf (f:=f3) (by rw [d1];decide) (cell f3 _ _ d2 d3 (CQ hl)) (cell f3 _ _ d2 d3 (CQ hl)) (ee f3 n d2) h4
  have h2:=eqf (f:=f2) (by rw [c1];decide) (cell f2 _ _ c2 c3 (Cb hl)) (cell f2 _ _ c2 c3 (Cb hl)) (ee f2 b c2) h3
  have h1:=eqf (f:=f1) (by rw [b1];decide) (cell f1 _ _ b2 b3 (CJ hl)) (cell f1 _ _ b2 b3 (CJ hl)) (ee f1 s b2) h2
  have hp:(part f0.type (TS l s b n d) f0.offset).run Tryz.prog w=.ok (.agg (J .u8 l)) w:=by
   rw [a2,a3]
   exact part3 (Q:=[]) (M:=vs .u8 l) rfl (by rw [Ai,hl]) xW
  have hq:(Op.equalIn (9997+2) f0.type (.agg (J .u8 l)) (.agg (J .u8 l))).run Tryz.prog w=.ok true w:=by
   have h:=Gj (P:=Tryz.prog) (w:=w) 9997 (k:=.u8) Tryz.underlying139 Tryz.underlying5 hi5 (by kernel_rfl) l l hl hl
   rw [a2]
   simpa [J] using h
  have h0:=eqf (f:=f0) (by rw [a1];decide) hp hp hq h1
  rw [h0]
  rfl
 ·simp at hf
theorem dZ (ho:o.op=.binOp .eql 141 x y t') (hx:a.eval x=.agg (TS l s b n d)) (hy:a.eval y=.agg (TS l s b n d)) (hl:l.length=258) :
  (execOp a.eval o).run Tryz.prog w=.ok (.value (.bool true)) w:=by
 unfold execOp
 simp only [ho,hx,hy,Sem.run_bind,run_eqGuard_agg w .eql 141 x y _ _ (by kernel_rfl:Tryz.prog.eqGuardType Tryz.prog.depth 141=false),Result.andThen_ok,run_eql_struct,eq141 s b n d w hl,Sem.run_pure]
theorem Dq {parts:Array (Nat × Operand)} (ho:o.op=.build ty parts) (hb:Tryz.prog.built ty (parts.map fun (i,x)=>(i,a.eval x)).toList=some cs):(execOp a.eval o).run Tryz.prog w=.ok (.value (.agg cs)) w:=by
 unfold execOp
 simp only [ho,Sem.run_bind,run_build w ty _ cs hb,Result.andThen_ok,Sem.run_pure]
theorem UQ (ho:o.op=.build 141 #[(2,x),(3,y)]) (hx:a.eval x=.int .i64 b) (hy:a.eval y=.int .i64 n):(execOp a.eval o).run Tryz.prog w=.ok (.value (.agg (TS Hf 0 b n 0))) w :=
 Dq ho (by simp only [List.map_toArray,List.map_cons,List.map_nil,hx,hy];kernel_rfl)
set_option maxHeartbeats 1000000
set_option maxRecDepth 100000
def turn (was now way:Int):Bool:=if way=0 then decide (was=now) else if way=1 then decide (was < now) else decide (now < was)
theorem aO (x y z:Int) (w:World):Calls Tryz.prog 212 #[.int .i64 x,.int .i64 y,.int .i64 z] w fun e w'=>(e=.returned (.bool (turn x y z)))/\w'=w:=by
 rw [turn]
 by_cases h0:z=0
 ·subst h0
  rw [if_pos rfl]
  cases hq:decide (x=y)
  all_goals
   have hq':(x == y)=decide (x=y):=rfl
   rw [hq] at hq'
   clear hq
   go_enter Tryz.func212,Tryz.ntmps212
   go_wp2
   go_ret
   exact ⟨rfl,rfl⟩
 rw [if_neg h0]
 have q0:(z == 0)=false:=by simpa using h0
 by_cases h1:z=1
 ·subst h1
  rw [if_pos rfl]
  clear h0 q0
  cases hq:decide (x < y)
  all_goals
   go_enter Tryz.func212,Tryz.ntmps212
   go_wp2
   go_ret
   exact ⟨rfl,rfl⟩
 rw [if_neg h1]
 have q1:(z == 1)=false:=by simpa using h1
 clear h0 h1
 cases hq:decide (y < x)
 all_goals
  go_enter Tryz.func212,Tryz.ntmps212
  go_wp2
  go_ret
  exact ⟨rfl,rfl⟩
def Known (l:List Int) (s:Int):Prop:=∀ k:Nat,k < 258->0<=gi l k/\gi l k<=15/\(s<=k->gi l k=0)
theorem Oa (l:List Int) (s b n d:Int) (w0:World) (hl:l.length=258) (hk:Known l s):Calls Tryz.prog 211 #[.agg (TS l s b n d)] w0 (RB w0 (.bool true)):=by
 have HL:=Lib.hid hl
 have HK:=Lib.hid hk
 clear hk hl
 go_enter Tryz.func211,Tryz.ntmps211
 have hm:=Own.nil w0
 go_wp2_with (first
 |(with_reducible refine wb hm ?_;clear hm;intro w g hm)
 |(refine A8 rfl (ldp 0 hm rfl rfl rfl (Jv HL.out) (F5 HL.out) (L9 HL.out)) ?_))
 go_loopw [7] (fun u wr=>∃ k:Nat,k<=258/\u=.int .i64 k/\Own w0 wr [(g,TS l s b n d)] []) (fun u _=>258 - (intOf u).toNat)
 case atStart=>exact ⟨0,by omega,rfl,hm⟩
 case round =>
  clear hm
  obtain ⟨k,hk,rfl,hm⟩:=hrel
  by_cases hlt:k < 258
  ·have hg:(J .u8 l)[k]?=some (.int .u8 (gi l k)):=XC .u8 l k (by rw [HL.out];exact hlt)
   obtain ⟨hx0,hx1,hx2⟩:=HK.out k hlt
   have q1:decide (15 < gi l k)=false:=decide_eq_false (by omega)
   by_cases hs:s<=k
   ·have q2:decide (s<=(k:Int))=true:=decide_eq_true hs
    rw [hx2 hs] at hg
    clear hx0 hx1 hx2 q1 hs
    go_wp2_with (first
   |(refine A8 rfl (DZ rfl rfl rfl Tryz.underlying139 FV hlt hg) ?_)
   |(refine A8 rfl (ld 0 hm rfl rfl rfl (ot rfl) (CJ HL.out)) ?_)
   |(refine A8 rfl (ld 0 hm rfl rfl rfl (ot rfl) (Cb HL.out)) ?_)
   |(refine A8 rfl (ld 0 hm rfl rfl rfl (ot rfl) (CQ HL.out)) ?_)
   |(refine A8 rfl (ld 0 hm rfl rfl rfl (ot rfl) (E8 HL.out)) ?_)
   |(refine A8 rfl (lda 0 hm rfl rfl rfl (Bq HL.out)) ?_)
   |(refine A8 rfl (ldp 0 hm rfl rfl rfl (Jv HL.out) (F5 HL.out) (L9 HL.out)) ?_))
    go_roundw
    case rel=>exact ⟨k+1,by omega,by go_num,hm⟩
    case measure=>simp [intOf];omega
   ·have q2:decide (s<=(k:Int))=false:=decide_eq_false hs
    clear hx0 hx1 hx2 hs
    generalize gi l k=x at *
    go_wp2_with (first
   |(refine A8 rfl (DZ rfl rfl rfl Tryz.underlying139 FV hlt hg) ?_)
   |(refine A8 rfl (ld 0 hm rfl rfl rfl (ot rfl) (CJ HL.out)) ?_)
   |(refine A8 rfl (ld 0 hm rfl rfl rfl (ot rfl) (Cb HL.out)) ?_)
   |(refine A8 rfl (ld 0 hm rfl rfl rfl (ot rfl) (CQ HL.out)) ?_)
   |(refine A8 rfl (ld 0 hm rfl rfl rfl (ot rfl) (E8 HL.out)) ?_)
   |(refine A8 rfl (lda 0 hm rfl rfl rfl (Bq HL.out)) ?_)
   |(refine A8 rfl (ldp 0 hm rfl rfl rfl (Jv HL.out) (F5 HL.out) (L9 HL.out)) ?_))
    go_roundw
    case rel=>exact ⟨k+1,by omega,by go_num,hm⟩
    case measure=>simp [intOf];omega
  ·obtain rfl:k=258:=by omega
   go_wp2
   go_ret
   exact ⟨rfl,hm.below⟩
structure TT where
 l:List Int
 s:Int
 b:Int
 n:Int
 d:Int
def TT.v (t:TT):Array Value:=TS t.l t.s t.b t.n t.d
def TT.next (t:TT) (bit:Int):TT × Bool :=
 if t.b < 4 then (⟨t.l,t.s,t.b+1,2 * t.n+bit,t.d⟩,true)
 else if t.b=4 then if bit=0 then (⟨t.l.set t.s.toNat t.n,t.s+1,t.b,t.n,0⟩,decide (t.s+1 < 258) || JL (t.l.set t.s.toNat t.n)) else (⟨t.l,t.s,5,t.n,t.d⟩,true)
 else if bit=0 then (⟨t.l,t.s,4,t.n+1,1⟩,decide (t.d ≠ 2/\t.n < 15)) else (⟨t.l,t.s,4,t.n - 1,2⟩,decide (t.d ≠ 1/\0 < t.n))
structure TT.ok (t:TT):Prop where
 len:t.l.length=258
 sym:0<=t.s/\t.s < 258
 bit:0<=t.b/\t.b<=5
 now:0<=t.n/\t.n<=15
 way:0<=t.d/\t.d<=2
 known:Known t.l t.s
 first:t.b < 4->t.s=0/\t.d=0/\t.l=Hf/\t.n < 2 ^ t.b.toNat
 zero:t.s=0->t.d=1->0 < t.n
 zero2:t.s=0->t.d=2->t.n < 15
 turn:0 < t.s->turn (gi t.l (t.s.toNat - 1)) t.n t.d=true
end Go.Proofs.YtkpbhdhkdonghaaGreat
