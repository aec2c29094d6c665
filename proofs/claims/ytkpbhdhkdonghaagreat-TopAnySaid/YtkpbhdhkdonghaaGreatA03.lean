/-
  Part 3 of the proof.
-/
import Derived.Laws.AppendOwnNone
import Derived.Test.YtkpbhdhkdonghaaGreatA01
set_option linter.all false
namespace Go.Proofs.YtkpbhdhkdonghaaGreat
open Go Go.RowKit
variable {ad:Addr} {cs ns:A_} {zz:Int} {q:IntKind} {l:I_} {news xs ys:L_} {base base' bytes c g k n off r size:Nat} {x y:Operand} {e s t ty:TypeId} {i:TypeInfo} {sv v' z:Value} {w':World}
structure Gv (P:Program) (t e:TypeId) (i:TypeInfo) (z:Value) (bytes:Nat):Prop where
 under:P.underlying t=some (.slice e)
 info:P.info? e=some i
 zero:i.zero=some z
 size:i.size=1
 bytes:i.bytes=bytes
 cell:z.cells=#[z]
theorem Gv.ex {P:Program} (hu:P.underlying t=some (.slice e)) (h:(P.info? e).map (fun i=>(i.zero,i.size,i.bytes))=some (some z,1,bytes)) (hc:z.cells=#[z]):∃ i,Gv P t e i z bytes:=by
 cases hi:P.info? e with
|none=>rw [hi] at h;cases h
|some i =>
  rw [hi] at h;simp only [Option.map_some,Option.some.injEq,Prod.mk.injEq] at h;exact ⟨i,hu,hi,h.1,h.2.1,h.2.2,hc⟩
abbrev Sl:=Value × TypeId × L_
def BN:L_->List (Value × Value)
|k::v::r=>(k,v)::BN r
|_=>[]
def N9 (w:World) (r:Nat) (xs:L_):Prop:=∃ es clock,w.heap[r]?=some (.map es clock)/\(∀ e ∈ es.toList,(e.key,e.val) ∈ BN xs)/\(∀ p ∈ BN xs,∃ e ∈ es.toList,e.key=p.1)/\es.size=(BN xs).length
def Ey:Nat:=1000
structure Jw (w:World) (base:Nat) (s:Sl):Prop where
 sl:s.2.1 < Ey->w.ownsRow base s.2.1 1 s.1 s.2.2.length s.2.2
 mp:¬ s.2.1 < Ey->base<=s.2.1 - Ey/\N9 w (s.2.1 - Ey) s.2.2/\s.1=.slice none 0 0
theorem N9.lt {w:World} (h:N9 w r xs):r < w.heap.size:=by
 obtain ⟨es,c,h1,_⟩:=h;exact (Array.getElem?_eq_some_iff.1 h1).1
theorem N9.block {w:World} (h:N9 w r xs) (hb:w'.heap[r]?=w.heap[r]?):N9 w' r xs:=by
 obtain ⟨es,c,h1,h2⟩:=h;exact ⟨es,c,hb.trans h1,h2⟩
theorem Jw.lt {w:World} {base:Nat} {s:Sl} (h:Jw w base s):∀ k,s.1.ownBlock=some k->base<=k/\k < w.heap.size:=by
 intro k hk;by_cases hq:s.2.1 < Ey
 ·exact (h.sl hq).lt k hk
 ·rw [(h.mp hq).2.2] at hk;cases hk
theorem Jw.cells {w:World} {base:Nat} {s:Sl} (h:Jw w base s):∀ k,s.1.ownBlock=some k->∃ cs t f,w.heap[k]?=some (.cells cs t f):=by
 intro k hk;by_cases hq:s.2.1 < Ey
 ·rcases (h.sl hq).2 with ⟨hv,_⟩|⟨g,cap,cur,hv,_,hg,_⟩
  ·rw [hv] at hk;cases hk
  ·rw [hv] at hk;cases hk;exact ⟨_,_,_,hg⟩
 ·rw [(h.mp hq).2.2] at hk;cases hk
theorem Jw.blocks {w:World} {s:Sl} (h:Jw w base s) (hb:∀ k,k < w.heap.size->w'.heap[k]?=w.heap[k]?):Jw w' base s:=by
 refine ⟨fun hq=>?_,fun hq=>?_⟩
 ·have h1:=h.sl hq;refine ⟨h1.1,?_⟩;rcases h1.2 with hn|⟨g,cap,cur,hv,hg,hh,rest⟩
  ·exact .inl hn
  ·exact .inr ⟨g,cap,cur,hv,hg,(hb g (Array.getElem?_eq_some_iff.1 hh).1).trans hh,rest⟩
 ·obtain ⟨h1,h2,h3⟩:=h.mp hq;exact ⟨h1,h2.block (hb _ h2.lt),h3⟩
theorem Jw.alloc {w:World} {base:Nat} {s:Sl} (h:Jw w base s) (o:Obj):Jw (w.alloc o) base s:=h.blocks (fun _ hk=>heap_alloc_old w o hk)
theorem Jw.kept {w w':World} {base:Nat} {s:Sl} {row:Option Nat} (h:Jw w base s) (hg:w.grownBy w' row) (hne:s.1.ownBlock=none\/s.1.ownBlock ≠ row) (hc:∀ k,row=some k->∃ cs t f,w.heap[k]?=some (.cells cs t f)):Jw w' base s:=by
 refine ⟨fun hq=>(h.sl hq).kept hg hne,fun hq=>?_⟩;obtain ⟨h1,h2,h3⟩:=h.mp hq;refine ⟨h1,h2.block (hg.block _ h2.lt ?_),h3⟩;intro e;obtain ⟨cs,t,f,e2⟩:=hc _ e.symm;obtain ⟨es,c,e3,_⟩:=h2;rw [e2] at e3;cases e3
structure Own (w0 w:World) (rs:Rws) (ss:List Sl):Prop where
 mem:Mem w0 w rs
 sl:∀ s ∈ ss,Jw w w0.heap.size s
 apart:(ss.filterMap (·.1.ownBlock)++rs.map (·.1)).Nodup
theorem Own.below {w0 w:World} {rs:Rws} {ss:List Sl} (h:Own w0 w rs ss):Below w0.heap.size w0 w:=h.mem.below
theorem Own.nil (w:World):Own w w [] []:=⟨Mem.nil w,by simp,by simp⟩
theorem Own.row {w0 w:World} {rs:Rws} {ss:List Sl} (h:Own w0 w rs ss) (i:Nat) (hi:rs[i]?=some (g,cs)):AA w g cs:=h.mem.get i hi
theorem Own.get {w0 w:World} {rs:Rws} {ss:List Sl} (h:Own w0 w rs ss) (j:Nat) {s:Sl} (hj:ss[j]?=some s) (hq:s.2.1 < Ey:=by first|assumption|(simp [Ey];done)):w.ownsRow w0.heap.size s.2.1 1 s.1 s.2.2.length s.2.2 :=
 (h.sl s (l_m hj)).sl hq
theorem Own.rJ {w0 w:World} {rs:Rws} {ss:List Sl} (h:Own w0 w rs ss):∀ k ∈ ss.filterMap (·.1.ownBlock),w0.heap.size<=k/\k < w.heap.size:=by
 intro k hk;obtain ⟨s,hs,e⟩:=List.mem_filterMap.1 hk;exact (h.sl s hs).lt k e
theorem Own.alloc {w0 w:World} {rs:Rws} {ss:List Sl} (h:Own w0 w rs ss) (cs:A_) (t:TypeId):Own w0 (w.alloc (.cells cs t)) ((w.heap.size,cs)::rs) ss:=by
 refine ⟨h.mem.alloc cs t,fun s hs=>(h.sl s hs).alloc _,?_⟩;rw [List.map_cons,List.nodup_append];obtain ⟨h1,h2,h3⟩:=List.nodup_append.1 h.apart;have hm:=(h.mem.alloc cs t).apart;refine ⟨h1,by simpa using hm,?_⟩;intro a ha b hb;rcases List.mem_cons.1 hb with rfl|hb
 ·have:=(h.rJ a ha).2;omega
 ·exact h3 a ha b hb
theorem Own.PV {w0 w:World} {rs:Rws} {ss:List Sl} (h:Own w0 w rs ss) (o:Obj):Own w0 (w.alloc o) rs ss :=
 ⟨h.mem.PV o,fun s hs=>(h.sl s hs).alloc o,h.apart⟩
theorem Own.drawn {w0 w:World} {rs:Rws} {ss:List Sl} (h:Own w0 w rs ss) (n:Nat):Own w0 { w with drawn:=n } rs ss :=
 ⟨h.mem.drawn n,fun s hs=>(h.sl s hs).blocks (fun _ _=>rfl),h.apart⟩
theorem Own.call {w0 w w':World} {rs:Rws} {ss:List Sl} (h:Own w0 w rs ss) (hb:Below w.heap.size w w'):Own w0 w' rs ss :=
 ⟨h.mem.call hb,fun s hs=>(h.sl s hs).blocks (fun k hk=>hb.block k hk),h.apart⟩
theorem ownsRow_base {w:World} {v:Value} (h:w.ownsRow base e size v n xs) (hb:base'<=base):w.ownsRow base' e size v n xs:=by
 refine ⟨h.1,?_⟩;rcases h.2 with hn|⟨g,cap,cur,rfl,hg,rest⟩
 ·exact .inl hn
 ·exact .inr ⟨g,cap,cur,rfl,Nat.le_trans hb hg,rest⟩
theorem Own.fG {w0 w:World} {rs:Rws} {ss:List Sl} (h:Own w0 w rs ss) (hb:Below w.heap.size w w') {v:Value} (ho:w'.ownsRow w.heap.size e 1 v xs.length xs) (hq:e < Ey:=by first|assumption|(simp [Ey];done)):Own w0 w' rs ((v,e,xs)::ss):=by
 have h':=h.call hb;refine ⟨h'.mem,?_,?_⟩
 ·intro s hs;rcases List.mem_cons.1 hs with rfl|hs
  ·exact ⟨fun _=>ownsRow_base ho h.below.size,fun hn=>absurd hq hn⟩
  ·exact h'.sl s hs
 ·cases hv:v.ownBlock with
 |none=>simpa [List.filterMap_cons,hv] using h.apart
 |some g =>
   have hg:=(ho.lt g hv).1;simp only [List.filterMap_cons,hv,List.cons_append,List.nodup_cons];refine ⟨?_,h.apart⟩;intro hm;rcases List.mem_append.1 hm with hm|hm
   ·have:=(h.rJ g hm).2;omega
   ·exact xcp
theorem Own.dropRow {w0 w:World} {r:Nat × A_} {rs:Rws} {ss:List Sl} (h:Own w0 w (r::rs) ss):Own w0 w rs ss:=by
 refine ⟨⟨h.mem.below,fun p hp=>h.mem.own p (by simp [hp]),fun p hp=>h.mem.rows p (by simp [hp]),?_⟩,h.sl,?_⟩
 ·have:=h.mem.apart;rw [List.map_cons,List.nodup_cons] at this;exact this.2
 ·obtain ⟨h1,h2,h3⟩:=List.nodup_append.1 h.apart;rw [List.map_cons,List.nodup_cons] at h2;exact List.nodup_append.2 ⟨h1,h2.2,fun a ha b hb=>h3 a ha b (by simp [hb])⟩
theorem Own.J9 {w0 w:World} {rs:Rws} {s:Sl} {ss:List Sl} (h:Own w0 w rs (s::ss)):Own w0 w rs ss:=by
 refine ⟨h.mem,fun x hx=>h.sl x (by simp [hx]),?_⟩;have:=h.apart;rw [List.filterMap_cons] at this;split at this
 ·exact this
 ·rw [List.cons_append,List.nodup_cons] at this;exact this.2
theorem Own.putRow {w0 w:World} {rs:Rws} {ss:List Sl} (h:Own w0 w rs ss) (i:Nat) {vs:A_} (hi:rs[i]?=some (g,cs)) (hr:AA w' g vs) (hg:w.grownBy w' (some g)):Own w0 w' (rs.set i (g,vs)) ss:=by
 refine ⟨h.mem.put i hi hr hg,fun s hs=>(h.sl s hs).kept hg ?_ (fun k hk=>by cases hk;obtain ⟨t,ht⟩:=h.row i hi;exact ⟨_,_,_,ht⟩),?_⟩
 ·cases hv:s.1.ownBlock with
 |none=>exact .inl rfl
 |some k =>
   refine .inr fun e=>?_;cases e;obtain ⟨_,_,h3⟩:=List.nodup_append.1 h.apart;exact h3 g (List.mem_filterMap.2 ⟨s,hs,hv⟩) g (List.mem_map.2 ⟨(g,cs),l_m hi,rfl⟩) rfl
 ·rw [KI rs i g cs vs hi];exact h.apart
theorem Own.setRow {w0 w:World} {rs:Rws} {ss:List Sl} (h:Own w0 w rs ss) (i:Nat) {g:Nat} {cs:A_} (vs:A_) (hi:rs[i]?=some (g,cs)):Own w0 (w.setRow g vs) (rs.set i (g,vs)) ss :=
 h.putRow i hi ((h.row i hi).setRow vs) (EC w g vs)
theorem Own.setCell {w0 w:World} {rs:Rws} {ss:List Sl} (h:Own w0 w rs ss) (i:Nat) {g:Nat} {cs:A_} (k:Nat) (v:Value) (hi:rs[i]?=some (g,cs)):Own w0 (w.setCell ⟨g,k,none⟩ v) (rs.set i (g,cs.setIfInBounds k v)) ss :=
 h.putRow i hi ((h.row i hi).setCell k v) (grownBy_setCell w g k v)
theorem Own.putSl {w0 w:World} {rs:Rws} {ss:List Sl} (h:Own w0 w rs ss) (j:Nat) {v:Value} (hj:ss[j]?=some (v,e,xs)) (ho:w'.ownsRow w0.heap.size e 1 v' ys.length ys) (hg:w.grownBy w' v.ownBlock)
  (hb:v'.ownBlock=v.ownBlock\/v'.ownBlock=some w.heap.size) (hq:e < Ey:=by first|assumption|(simp [Ey];done)):Own w0 w' rs (ss.set j (v',e,ys)):=by
 obtain ⟨n1,n2,n3⟩:=List.nodup_append.1 h.apart;have hjm:=l_m hj;have hne:∀ k,v.ownBlock=some k->k ∉ rs.map (·.1):=fun k hk hm=>n3 k (List.mem_filterMap.2 ⟨_,hjm,hk⟩) k hm rfl
 have hoth:∀ i s,i ≠ j->ss[i]?=some s->∀ k,s.1.ownBlock=some k->v.ownBlock ≠ some k:=by
  clear ho hg hb n2 n3 hne hjm;have:=n1;clear n1 h
  induction ss generalizing j with
 |nil=>intro i s _ hi;simp at hi
 |cons a ss ih =>
   intro i s hij hi k hk hv;cases i with
  |zero =>
    simp at hi;subst hi;cases j with
   |zero=>exact hij rfl
   |succ j =>
     simp at hj;rw [List.filterMap_cons,hk] at this;exact (List.nodup_cons.1 this).1 (List.mem_filterMap.2 ⟨_,l_m hj,hv⟩)
  |succ i =>
    simp at hi;cases j with
   |zero =>
     simp at hj;subst hj;rw [List.filterMap_cons,hv] at this;exact (List.nodup_cons.1 this).1 (List.mem_filterMap.2 ⟨_,l_m hi,hk⟩)
   |succ j =>
     simp at hj;refine ih j hj ?_ i s (by omega) hi k hk hv;rw [List.filterMap_cons] at this;split at this
     ·exact this
     ·exact (List.nodup_cons.1 this).2
 have hnew:∀ k,v'.ownBlock=some k->(∀ i s,i ≠ j->ss[i]?=some s->s.1.ownBlock ≠ some k)/\k ∉ rs.map (·.1):=by
  intro k hk;rcases hb with hb|hb
  ·rw [hb] at hk;exact ⟨fun i s hi hs e=>hoth i s hi hs k e hk,hne k hk⟩
  ·rw [hb] at hk;cases hk;refine ⟨fun i s _ hs e=>?_,fun hm=>?_⟩
   ·have:=(h.rJ _ (List.mem_filterMap.2 ⟨s,l_m hs,e⟩)).2;omega
   ·exact xcp
 refine ⟨h.mem.grown hg (fun k hk=>(h.rJ k (List.mem_filterMap.2 ⟨_,hjm,hk⟩)).1) hne,?_,?_⟩
 ·intro s hs;rcases Gl _ _ _ _ hs with rfl|⟨i,hi,e⟩
  ·exact ⟨fun _=>ho,fun hn=>absurd hq hn⟩
  ·refine (h.sl s (l_m e)).kept hg ?_ (fun k hk=>(h.sl _ hjm).cells k hk);cases hv:s.1.ownBlock with
  |none=>exact .inl rfl
  |some k=>exact .inr (fun e2=>hoth i s hi e k hv e2.symm)
 ·refine List.nodup_append.2 ⟨?_,n2,?_⟩
  ·clear ho hg hb n2 n3 hne hjm hoth;have hn:=n1;clear n1 h;have hnew':=fun k hk=>(hnew k hk).1;clear hnew
   induction ss generalizing j with
  |nil=>simp
  |cons a ss ih =>
    cases j with
   |zero =>
     simp at hj;subst hj
     have hss:(ss.filterMap (·.1.ownBlock)).Nodup:=by
      rw [List.filterMap_cons] at hn;split at hn
      ·exact hn
      ·exact (List.nodup_cons.1 hn).2
     simp only [List.set_cons_zero,List.filterMap_cons];split
     ·exact hss
     ·rename_i k hk;refine List.nodup_cons.2 ⟨fun hm=>?_,hss⟩;obtain ⟨s,hs,e⟩:=List.mem_filterMap.1 hm;obtain ⟨i,hi,e2⟩:=List.getElem_of_mem hs;exact hnew' k hk (i+1) s (by omega) (by simp [l_e hi,e2]) e
   |succ j =>
     simp at hj
     have hss:=ih j hj (by
      rw [List.filterMap_cons] at hn;split at hn
      ·exact hn
      ·exact (List.nodup_cons.1 hn).2) (fun k hk i s hi hs=>hnew' k hk (i+1) s (by omega) (by simpa using hs))
     simp only [List.set_cons_succ,List.filterMap_cons];split
     ·exact hss
     ·rename_i k hk;refine List.nodup_cons.2 ⟨fun hm=>?_,hss⟩;obtain ⟨s,hs,e⟩:=List.mem_filterMap.1 hm;rcases Gl _ _ _ _ hs with rfl|⟨i,hi,e2⟩
      ·exact hnew' k e 0 a (by omega) rfl hk
      ·rw [List.filterMap_cons,hk] at hn;exact (List.nodup_cons.1 hn).1 (List.mem_filterMap.2 ⟨s,l_m e2,e⟩)
  ·intro a ha b hb2 hab;subst hab;obtain ⟨s,hs,e⟩:=List.mem_filterMap.1 ha;rcases Gl _ _ _ _ hs with rfl|⟨i,hi,e2⟩
   ·exact (hnew a e).2 hb2
   ·exact n3 a (List.mem_filterMap.2 ⟨s,l_m e2,e⟩) a hb2 rfl
section
variable {P:Program} {w:World}
def Src (w:World) (v:Value) (news:L_):Prop:=(v=.slice none 0 0/\news=[])\/∃ ad c,v=.slice (some ad) news.length c/\(∀ j u,news[j]?=some u->w.cell? (ad.add j)=some u)
theorem Src.Pm (h:AA w g cs) (off n c:Nat) (news:L_) (hn:news.length=n) (hc:∀ j u,news[j]?=some u->cs[off+j]?=some u):Src w (.slice (some ⟨g,off,none⟩) n c) news:=by
 subst hn;exact .inr ⟨_,_,rfl,fun j u hj=>by rw [Addr.add_lit,h.cell];exact hc j u hj⟩
theorem Src.Yo {v:Value} (h:w.ownsRow base e 1 v xs.length xs):Src w v xs:=by
 rcases h.2 with ⟨rfl,h0⟩|⟨g,cap,cur,rfl,_,hg,_,_,_,ht⟩
 ·exact .inl ⟨rfl,List.length_eq_zero_iff.1 h0⟩
 ·exact .inr ⟨⟨g,0,none⟩,cap,rfl,fun j u hj=>h.cells (g:=g) rfl j u hj⟩
theorem Rx (he:Gv P t e i z bytes) {v:Value} (hown:w.ownsRow base e 1 v n xs)
  (hs:Src w sv news) (h1:∀ u ∈ news,u.oneCell'=true) (h63:n+news.length<=maxLen) (hbytes:(n+news.length) * bytes<=140737488355328) (hbase:base<=w.heap.size) :
  ∃ a c w',(Builtin.append_ #[t,t] ty #[v,sv]).run P w=.ok (.slice a (n+news.length) c) w'/\w'.ownsRow base e 1 (.slice a (n+news.length) c) (n+news.length) (xs++news)/\w.grownBy w' v.ownBlock /\
   ((Value.slice a (n+news.length) c).ownBlock=v.ownBlock\/(Value.slice a (n+news.length) c).ownBlock=some w.heap.size):=by
 have hzs:z.cells.size=1:=by rw [he.cell];rfl
 have hsmall:n+news.length<=9223372036854775807:=by simp only [maxLen] at h63;omega
 rcases hs with ⟨rfl,rfl⟩|⟨ad,c,rfl,hnews⟩
 ·have hr:=run_append_owned_none (P:=P) (w:=w) base t ty e i 1 he.under he.info v n xs hown;simp only [List.length_nil,Nat.add_zero,List.append_nil];rcases hown.2 with ⟨rfl,rfl⟩|⟨g,cap,cur,rfl,_⟩
  ·exact ⟨none,0,w,hr,hown,⟨rfl,rfl,rfl,Nat.le_refl _,fun _ _ _=>rfl⟩,.inl rfl⟩
  ·exact ⟨_,_,w,hr,hown,⟨rfl,rfl,rfl,Nat.le_refl _,fun _ _ _=>rfl⟩,.inl rfl⟩
 ·obtain ⟨v',w',hr,h2,h3,h4⟩:=run_append_own (P:=P) w base t ty e i z 1 bytes he.under he.info he.zero he.size he.bytes hzs (by omega) v n xs hown ad news.length c news (by omega) hnews h1 h63 hbytes hbase
  suffices hsh:∃ a c,v'=.slice a (n+news.length) c/\((Value.slice a (n+news.length) c).ownBlock=v.ownBlock\/(Value.slice a (n+news.length) c).ownBlock=some w.heap.size) by
   obtain ⟨a,c',rfl,hb⟩:=hsh;exact ⟨a,c',w',hr,h2,h3,hb⟩
  rcases hown.2 with ⟨rfl,rfl⟩|⟨g,cap,cur,rfl,hbg,hg,hnc,hcm,hcs,htake⟩
  ·by_cases hm:news.length=0
   ·have:=h4.2 ⟨rfl,hm⟩;exact ⟨none,0,by rw [this,hm],.inl rfl⟩
   ·have hr2:=run_append_nil (P:=P) w t ty e i z he.under he.info he.zero ad news.length c news (by rw [he.size];omega) hnews (by omega) (by omega) (by rw [he.bytes];have hb:=hbytes;simp only [Nat.zero_add] at hb;omega);rw [hr] at hr2;simp only [Result.ok.injEq] at hr2;exact ⟨_,_,by rw [hr2.1,Nat.zero_add],.inr (by rw [Nat.zero_add];rfl)⟩
  ·by_cases hroom:n+news.length<=cap
   ·have hr2:=run_append_room (P:=P) w t ty e i he.under he.info g n cap cur hg ad news.length c news (by rw [he.size];omega) hnews h1 hroom (by rw [he.size];omega);rw [hr] at hr2;simp only [Result.ok.injEq] at hr2;exact ⟨_,_,hr2.1,.inl rfl⟩
   ·have holds:∀ j u,xs[j]?=some u->w.cell? ((⟨g,0,none⟩:Addr).add j)=some u:=hown.cells (g:=g) rfl;have hr2:=run_append_grow (P:=P) w t ty e i z he.under he.info he.zero ⟨g,0,none⟩ n cap xs (by rw [he.size];exact hown.1) holds ad news.length c news (by rw [he.size];omega) hnews (by omega) (by omega) (by rw [he.bytes];exact growslice_fits (by omega) hbytes);rw [hr] at hr2;simp only [Result.ok.injEq] at hr2;exact ⟨_,_,hr2.1,.inr rfl⟩
variable {ops:O_} {rest:Q_} {o:Oper} {a:Act} {w0:World} {Q:Exit->P_} {rs:Rws} {ss:List Sl}
theorem UR (j:Nat) (hm:Own w0 w rs ss) (ho:o.op=.call { callee:=.builtin .append,args:=#[x,y],argTypes:=#[t,t] }) (he:Gv P t e i z bytes)
  {v:Value} (hx:a.eval x=v) (hj:ss[j]?=some (v,e,xs)) (hy:a.eval y=sv) (hs:Src w sv news) (h1:∀ u ∈ news,u.oneCell'=true) (hb:(xs.length+news.length) * bytes<=140737488355328) (hb0:xs.length+news.length<=140737488355328) (hq:e < Ey:=by first|assumption|(simp [Ey];done)) :
  ∃ ad c w',(execOp a.eval o).run P w=.ok (.value (.slice ad (xs.length+news.length) c)) w'/\Own w0 w' rs (ss.set j (.slice ad (xs.length+news.length) c,e,xs++news)):=by
 have hown:=hm.get j hj;obtain ⟨ad,c,w',hr,h2,h3,h4⟩:=Rx (ty:=o.type) he hown hs h1 (by simp only [maxLen];omega) hb hm.below.size;refine ⟨ad,c,w',?_,hm.putSl j hj (by rw [List.length_append];exact h2) h3 h4⟩;exact xco
theorem QC (j:Nat) (hm:Own w0 w rs ss) (hgd:Region.wanted o (yielded ops a.tmps)=true) (ho:o.op=.call { callee:=.builtin .append,args:=#[x,y],argTypes:=#[t,t] }) (he:Gv P t e i z bytes)
  {v:Value} (hx:a.eval x=v) (hj:ss[j]?=some (v,e,xs)) (hy:a.eval y=sv) (hs:Src w sv news) (h1:∀ u ∈ news,u.oneCell'=true) (hb:(xs.length+news.length) * bytes<=140737488355328) (hb0:xs.length+news.length<=140737488355328)
  (h:∀ ad c w',Own w0 w' rs (ss.set j (.slice ad (xs.length+news.length) c,e,xs++news))->wpList P ops Q rest (a.put o.dst (.slice ad (xs.length+news.length) c)) w') (hq:e < Ey:=by first|assumption|(simp [Ey];done)):wpList P ops Q (o::rest) a w:=by
 obtain ⟨ad,c,w',hr,h2⟩:=UR (P:=P) j hm ho he hx hj hy hs h1 hb hb0 hq;exact A8 hgd hr (h ad c w' h2)
theorem Qo (ho:o.op=.buildSlice t 1 #[(0,x)]) (he:Gv P t e i z bytes) {v:Value} (hx:a.eval x=v) (hv:v.cells=#[v]) :
  (execOp a.eval o).run P w=.ok (.value (.slice (some ⟨w.heap.size,0,none⟩) 1 1)) (w.alloc (.cells #[v] e)):=by
 have hz:(zeroValue e).run P w=.ok z w:=by simp [zeroValue,typeInfo,he.info,he.zero]
 unfold execOp;simp only [ho,Instr.buildSlice,s_b,r_u he.under,r_o,sizeOf,typeInfo,run_program,he.info,l_y,List.map_cons,List.map_nil,hx];have hr:Array.range 1=#[0]:=by decide
 simp [Instr.fill,hv,he.size,newRow,hz,Result.andThen,hr]
theorem QB (hm:Own w0 w rs ss) (hgd:Region.wanted o (yielded ops a.tmps)=true) (ho:o.op=.buildSlice t 1 #[(0,x)]) (he:Gv P t e i z bytes) {v:Value} (hx:a.eval x=v) (hv:v.cells=#[v])
  (h:∀ w' g,Own w0 w' ((g,#[v])::rs) ss->wpList P ops Q rest (a.put o.dst (.slice (some ⟨g,0,none⟩) 1 1)) w'):wpList P ops Q (o::rest) a w :=
 A8 hgd (Qo ho he hx hv) (h _ _ (hm.alloc #[v] e))
theorem Ar (hm:Own w0 w rs ss) (hgd:Region.wanted o (yielded ops a.tmps)=true) (ho:o.op=.box ty x) (hx:a.eval x=.agg cs)
  (h:∀ w' g,Own w0 w' ((g,cs)::rs) ss->wpList P ops Q rest (a.put o.dst (.pointer (some ⟨g,0,none⟩))) w'):wpList P ops Q (o::rest) a w:=by
 have hrun:(execOp a.eval o).run P w=.ok (.value (.pointer (some ⟨w.heap.size,0,none⟩))) (w.alloc (.cells cs ty)):=by
  unfold execOp;simp only [ho,hx,Instr.box,newVar,newRow,Value.cells,s_b,s_p];rfl
 exact A8 hgd hrun (h _ _ (hm.alloc cs ty))
theorem AL (hm:Own w0 w rs ss) (hgd:Region.wanted o (yielded ops a.tmps)=true) (ho:o.op=.alloc ty) (hz:∀ w,(zeroValue ty).run P w=.ok (.agg cs) w)
  (h:∀ w' g,Own w0 w' ((g,cs)::rs) ss->wpList P ops Q rest (a.put o.dst (.pointer (some ⟨g,0,none⟩))) w'):wpList P ops Q (o::rest) a w:=by
 have hrun:(execOp a.eval o).run P w=.ok (.value (.pointer (some ⟨w.heap.size,0,none⟩))) (w.alloc (.cells cs ty)):=by
  exact xek
 exact A8 hgd hrun (h _ _ (hm.alloc cs ty))
theorem AY (i:Nat) (hm:Own w0 w rs ss) (hgd:Region.wanted o (yielded ops a.tmps)=true) (ho:o.op=.store ty x y) (hx:a.eval x=.pointer (some ⟨g,0,none⟩)) {vs:A_} (hy:a.eval y=.agg vs)
  (hi:rs[i]?=some (g,cs)) (ht:Aq P ty vs.size) (hs:vs.size=cs.size) (h1:∀ v ∈ vs,v.oneCell'=true)
  (h:∀ w',Own w0 w' (rs.set i (g,vs)) ss->wpList P ops Q rest (a.put o.dst undef) w'):wpList P ops Q (o::rest) a w:=by
 have hrun:=Gn (P:=P) (off:=0) ho hx hy (hm.row i hi) ht rfl (by omega) h1;rw [GI cs vs hs] at hrun;exact FN hgd hrun (h _ (hm.setRow i vs hi))
theorem BL (i:Nat) (hm:Own w0 w rs ss) (hgd:Region.wanted o (yielded ops a.tmps)=true) (ho:o.op=.store ty x y) (hx:a.eval x=.pointer (some ⟨g,off,none⟩)) {v:Value} (hy:a.eval y=v) 
  (hi:rs[i]?=some (g,cs)) (ht:ET P ty) (hf:off < cs.size) (hc:v.cells=#[v]) (h1:v.oneCell'=true) (hn:cs.setIfInBounds off v=ns)
  (h:∀ w',Own w0 w' (rs.set i (g,ns)) ss->wpList P ops Q rest (a.put o.dst undef) w'):wpList P ops Q (o::rest) a w:=by
 have hr:=hm.row i hi;have hcell:w.cell? ⟨g,off,none⟩=some cs[off]:=by rw [hr.cell];simp [hf]
 have hst:(store ⟨g,off,none⟩ v).run P w=.ok () (w.setCell ⟨g,off,none⟩ v):=by
  rw [run_store P w _ v _ h1,hcell];simp [hr.free off]
 have hrun:(execOp a.eval o).run P w=.ok .skip (w.setCell ⟨g,off,none⟩ v):=by
  cases hq:P.info? ty with
 |none=>have:=ht.2;simp [hq] at this
 |some i =>
   exact xcg
 refine FN hgd hrun (h _ ?_);rw [<- hn];exact hm.setCell i off v hi
end
theorem Src.below {w:World} {v:Value} (h:Src w v xs) (hb:Below w.heap.size w w'):Src w' v xs:=by
 rcases h with h|⟨ad,c,rfl,hc⟩
 ·exact .inl h
 ·exact .inr ⟨ad,c,rfl,fun j u hj=>by
   have hj':=hc j u hj;have hlt:=block_lt_of_cell hj'
   exact (hb.cell hlt).trans hj'⟩
section
variable {P:Program} {w:World} {o:Oper} {a:Act}
theorem Am (ho:o.op=.indexAddr t x y) (he:Gv P t e i z bytes) (hx:a.eval x=.slice (some ad) n c) (hy:a.eval y=.int q zz) (hz:zz=k) (hk:k < n) :
  (execOp a.eval o).run P w=.ok (.value (.pointer (some (ad.add k)))) w:=by
 subst hz;unfold execOp;simp only [ho,hx,hy,Instr.indexAt,asIntOf,s_b,s_p,r_o,r_u he.under];simp [show (k:Int) < (n:Int) by omega,sizeOf,typeInfo,he.info,he.size]
theorem AU (ho:o.op=.load ty x) (hx:a.eval x=.pointer (some ad)) {v:Value}
  (ht:ET P ty) (hc:w.cell? ad=some v):(execOp a.eval o).run P w=.ok (.value v) w:=by
 unfold execOp;simp only [ho,hx,Instr.loadAt,Instr.sureAddr,s_b,s_p,r_o,loadVar,ht.1,Bool.false_eq_true,if_false,run_load,hc]
end
theorem A7l {P:Program} {w:World} {o:Oper} {a:Act} {d:TypeId} (ho:o.op=.convert s d x) (hs:P.underlying s=some (.slice e)) (he:P.underlying e=some (.int .u8)) (hd:P.underlying d=some .string)
  {v:Value} (hx:a.eval x=v) (hv:Src w v (vs .u8 l)):(execOp a.eval o).run P w=.ok (.value (.string (str l))) w:=by
 rcases hv with ⟨rfl,h0⟩|⟨A,c,rfl,hc⟩
 ·have hl:l=[]:=by simpa [vs] using h0
  subst hl;exact A7A ho hs he hd (l:=[]) hx (fun _=>rfl) (fun A h=>by cases h)
 ·rw [Ai] at hx;exact A7A ho hs he hd hx (fun h=>by cases h) (fun A' h j u hj=>by cases h;exact hc j u hj)
theorem kN {P:Program} {ops:O_} {rest:Q_} {o:Oper} {a:Act} {w:World} {Q:Exit->P_} (hg:Region.wanted o (yielded ops a.tmps)=true)
  (h:∀ K:P_,(∀ a w,wpList P ops Q rest a w->K a w)->o.wp P a w K Q):wpList P ops Q (o::rest) a w :=
 wpList_step fun K hK=>by rw [if_pos hg];exact h K hK
end Go.Proofs.YtkpbhdhkdonghaaGreat
