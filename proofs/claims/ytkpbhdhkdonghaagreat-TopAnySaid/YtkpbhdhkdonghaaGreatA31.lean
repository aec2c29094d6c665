/-
  Part 31 of the proof.
-/
import Derived.Test.YtkpbhdhkdonghaaGreatA03
import Derived.Test.YtkpbhdhkdonghaaGreatA30
set_option linter.all false
namespace Go.Proofs.YtkpbhdhkdonghaaGreat
open Go Go.RowKit
variable {h:AH} {g k m n:Nat} {u:Value} {w w':World}
theorem JM {β:Type} (n:Nat) (k:Nat->β):J7 n k=k n:=rfl
theorem bW:∀ (f n m:Nat),n < 2 ^ f->m < 2 ^ f->pa f n=pa f m->n=m
|0,n,m,h1,h2,_=>by simp at h1 h2;omega
|f+1,n,m,h1,h2,h=>by
  have e1:∀ n,pa (f+1) n=if n=0 then .e else if n % 2=1 then .a (pa f (n / 2)) else .b (pa f (n / 2 - 1)):=by
   intro n;show cond (Nat.beq n 0) _ (cond (Nat.beq (n % 2) 1) _ _)=_;by_cases h0:n=0
   ·subst h0;rfl
   ·have:Nat.beq n 0=false:=by
     cases hb:Nat.beq n 0
     ·rfl
     ·exact absurd (n_q hb) h0
    rw [this,if_neg h0];by_cases h1:n % 2=1
    ·rw [h1];rfl
    ·have:Nat.beq (n % 2) 1=false:=by
      cases hb:Nat.beq (n % 2) 1
      ·rfl
      ·exact absurd (n_q hb) h1
     rw [this,if_neg h1];rfl
  rw [e1,e1] at h;have hp:2 ^ (f+1)=2 * 2 ^ f:=by rw [Nat.pow_succ,Nat.mul_comm]
  by_cases a0:n=0<;>by_cases b0:m=0
  ·omega
  ·rw [if_pos a0,if_neg b0] at h;split at h<;>cases h
  ·rw [if_neg a0,if_pos b0] at h;split at h<;>cases h
  ·rw [if_neg a0,if_neg b0] at h;by_cases a1:n % 2=1<;>by_cases b1:m % 2=1
   ·rw [if_pos a1,if_pos b1] at h;injection h with h;have:=bW f (n / 2) (m / 2) (by omega) (by omega) h;omega
   ·rw [if_pos a1,if_neg b1] at h;cases h
   ·rw [if_neg a1,if_pos b1] at h;cases h
   ·rw [if_neg a1,if_neg b1] at h;injection h with h;have:=bW f (n / 2 - 1) (m / 2 - 1) (by omega) (by omega) h;omega
section
variable {α:Type}
theorem Tr.at_nil (p:Pa):Tr.at p (.nil:Tr α)=none:=by cases p<;>rfl
theorem Tr.A2G (v:Option α) (l r:Tr α):Tr.at .e (.node v l r)=v:=rfl
theorem Tr.A2I (p:Pa) (v:Option α) (l r:Tr α):Tr.at (.a p) (.node v l r)=Tr.at p l:=rfl
theorem Tr.A2H (p:Pa) (v:Option α) (l r:Tr α):Tr.at (.b p) (.node v l r)=Tr.at p r:=rfl
theorem Tr.A2h (x:Option α):Tr.lay x .e .nil=.node x .nil .nil:=rfl
theorem Tr.A2j (x:Option α) (p:Pa):Tr.lay x (.a p) .nil=.node none (Tr.lay x p .nil) .nil:=rfl
theorem Tr.A2i (x:Option α) (p:Pa):Tr.lay x (.b p) .nil=.node none .nil (Tr.lay x p .nil):=rfl
theorem Tr.lay_e (x v:Option α) (l r:Tr α):Tr.lay x .e (.node v l r)=.node x l r:=rfl
theorem Tr.lay_a (x:Option α) (p:Pa) (v:Option α) (l r:Tr α):Tr.lay x (.a p) (.node v l r)=.node v (Tr.lay x p l) r:=rfl
theorem Tr.lay_b (x:Option α) (p:Pa) (v:Option α) (l r:Tr α):Tr.lay x (.b p) (.node v l r)=.node v l (Tr.lay x p r):=rfl
theorem Tr.fM (x:Option α):∀ (p q:Pa) (t:Tr α),Tr.at q (Tr.lay x p t)=if q=p then x else Tr.at q t
|.e,q,t=>by cases t<;>cases q<;>simp [Tr.at_nil,Tr.A2G,Tr.A2I,Tr.A2H,Tr.A2h,Tr.lay_e]
|.a p,q,t=>by cases t<;>cases q<;>simp [Tr.at_nil,Tr.A2G,Tr.A2I,Tr.A2H,Tr.A2j,Tr.lay_a,Tr.fM x p]
|.b p,q,t=>by cases t<;>cases q<;>simp [Tr.at_nil,Tr.A2G,Tr.A2I,Tr.A2H,Tr.A2i,Tr.lay_b,Tr.fM x p]
end
def BIG:Nat:=2 ^ 24
theorem Tr.get_put {α:Type} (t:Tr α) (x:Option α) (hn:n < BIG) (hm:m < BIG):(t.put n x).get m=if m=n then x else t.get m:=by
 unfold Tr.put Tr.get;rw [Tr.fM];by_cases h:m=n
 ·subst h;simp
 ·rw [if_neg h,if_neg (fun e=>h (bW 24 m n hm hn e))]
abbrev En:=Nat->Option (Nat × Nat × Nat)
def capOf (c0 c:Nat):Nat:=if c < HALF then c else c0+c - NOM
mutual
inductive VR (e:En):Value->Value->Prop
|bool (b:Bool):VR e (.bool b) (.bool b)
|int (k:IntKind) (n:Int):VR e (.int k n) (.int k n)
|string (s:ByteArray):VR e (.string s) (.string s)
|ptrNil:VR e (.pointer none) (.pointer none)
|ptr {k off g:Nat} {c:Nat × Nat} (h:e k=some (g,c)):VR e (.pointer (some ⟨k,off,none⟩)) (.pointer (some ⟨g,off+c.2,none⟩))
|sliceNil:VR e (.slice none 0 0) (.slice none 0 0)
|slice {k off g n c:Nat} {c0:Nat × Nat} (h:e k=some (g,c0)) (hn:n<=capOf c0.1 c) (hc:HALF<=c->NOM<=c0.1+c/\c<=NOM):VR e (.slice (some ⟨k,off,none⟩) n c) (.slice (some ⟨g,off+c0.2,none⟩) n (capOf c0.1 c))
|sliceE {k off off' g c:Nat} {c0:Nat × Nat} (h:e k=some (g,c0)) (hc:HALF<=c\/c=0) (hc2:c<=NOM):VR e (.slice (some ⟨k,off,none⟩) 0 c) (.slice (some ⟨g,off',none⟩) 0 0)
|mapNil:VR e (.map none) (.map none)
|map {k g:Nat} {c:Nat × Nat} (h:e k=some (g,c)):VR e (.map (some k)) (.map (some g))
|nilFunc:VR e .nilFunc .nilFunc
|nilIface:VR e .nilIface .nilIface
|func (fn:Fn) {a a' b b':L_} (ha:VRs e a a') (hb:VRs e b b'):VR e (.func fn a.toArray b.toArray) (.func fn a'.toArray b'.toArray)
|iface (t:TypeId) {v v':Value} (h:VR e v v'):VR e (.iface t v) (.iface t v')
|agg {a a':L_} (h:VRs e a a'):VR e (.agg a.toArray) (.agg a'.toArray)
|tuple {a a':L_} (h:VRs e a a'):VR e (.tuple a.toArray) (.tuple a'.toArray)
inductive VRs (e:En):L_->L_->Prop
|nil:VRs e [] []
|cons {v v':Value} {l l':L_} (h:VR e v v') (ht:VRs e l l'):VRs e (v::l) (v'::l')
end
def En.le (e e':En):Prop:=∀ k x,e k=some x->e' k=some x
theorem En.le.refl (e:En):e.le e:=fun _ _ h=>h
theorem En.le.trans {a b c:En} (h:a.le b) (h':b.le c):a.le c:=fun k x hk=>h' k x (h k x hk)
mutual
theorem VR.mono {e e':En} (h:e.le e') {v u:Value}:VR e v u->VR e' v u
|.bool b=>.bool b
|.int k n=>.int k n
|.string s=>.string s
|.ptrNil=>.ptrNil
|.ptr hk=>.ptr (h _ _ hk)
|.sliceNil=>.sliceNil
|.slice hk hn hc=>.slice (h _ _ hk) hn hc
|.sliceE hk hc hc2=>.sliceE (h _ _ hk) hc hc2
|.mapNil=>.mapNil
|.map hk=>.map (h _ _ hk)
|.nilFunc=>.nilFunc
|.nilIface=>.nilIface
|.func fn ha hb=>.func fn (VRs.mono h ha) (VRs.mono h hb)
|.iface t hv=>.iface t (VR.mono h hv)
|.agg ha=>.agg (VRs.mono h ha)
|.tuple ha=>.tuple (VRs.mono h ha)
theorem VRs.mono {e e':En} (h:e.le e') {v u:L_}:VRs e v u->VRs e' v u
|.nil=>.nil
|.cons hv ht=>.cons (VR.mono h hv) (VRs.mono h ht)
end
theorem VR.undef {e:En}:VR e Go.undef Go.undef:=.tuple .nil
theorem VRs.length {e:En}:∀ {a b:L_},VRs e a b->b.length=a.length
|_,_,.nil=>rfl
|_,_,.cons _ h=>by simp [VRs.length h]
theorem VRs.append {e:En}:∀ {a b c d:L_},VRs e a b->VRs e c d->VRs e (a++c) (b++d)
|_,_,_,_,.nil,h=>h
|_,_,_,_,.cons h t,h'=>.cons h (VRs.append t h')
theorem VRs.get {e:En}:∀ {a b:L_},VRs e a b->∀ {i:Nat} {v:Value},a[i]?=some v->∃ u,b[i]?=some u/\VR e v u
|_,_,.nil,i,v,h=>by simp at h
|_,_,.cons hv ht,0,v,h=>by simp at h;subst h;exact ⟨_,by simp,hv⟩
|_,_,.cons hv ht,i+1,v,h=>by simp at h;obtain ⟨u,h1,h2⟩:=VRs.get ht h;exact ⟨u,by simpa using h1,h2⟩
theorem GN {e:En} {v:Value} (h:BM v=true):VR e v v:=by
 unfold BM at h;split at h
 all_goals first
 |exact .bool _
 |exact .int _ _
 |exact .string _
 |exact .ptrNil
 |exact .mapNil
 |exact .nilFunc
 |exact .nilIface
 |exact .sliceNil
 |cases h
theorem xA {e:En} {v:Value} (h:VR e v u) (hc:cell1 v=true):u.oneCell'=true:=by
 cases h<;>first|rfl|cases hc
theorem VRs.cells {e:En}:∀ {a b:L_},VRs e a b->a.all cell1=true->∀ v ∈ b,v.oneCell'=true
|_,_,.nil,_,v,h=>by cases h
|_,_,.cons hv ht,hc,v,h=>by
  rw [List.all_cons,b_t] at hc;rcases List.mem_cons.1 h with rfl|h
  ·exact xA hv hc.1
  ·exact VRs.cells ht hc.2 v h
theorem ZH {v:Value} (h:cell1 v=true):v.cells=#[v]:=by
 cases v<;>first|rfl|cases h
theorem VR.cells {e:En} {v u:Value} (h:VR e v u):VRs e v.cells.toList u.cells.toList:=by
 cases h
 case agg ha=>exact ha
 case func fn _ _ _ _ ha hb=>exact .cons (.func fn ha hb) .nil
 case tuple ha=>exact .cons (.tuple ha) .nil
 case iface t _ _ h=>exact .cons (.iface t h) .nil
 case bool=>exact .cons (.bool _) .nil
 case int=>exact .cons (.int _ _) .nil
 case string=>exact .cons (.string _) .nil
 case ptrNil=>exact .cons .ptrNil .nil
 case ptr h=>exact .cons (.ptr h) .nil
 case sliceNil=>exact .cons .sliceNil .nil
 case slice h hn hc=>exact .cons (.slice h hn hc) .nil
 case sliceE h hc hc2=>exact .cons (.sliceE h hc hc2) .nil
 case mapNil=>exact .cons .mapNil .nil
 case map h=>exact .cons (.map h) .nil
 case nilFunc=>exact .cons .nilFunc .nil
 case nilIface=>exact .cons .nilIface .nil
def OR (e:En) (w:World) (g:Nat) (c:Nat × Nat):AO->Prop
|.row cs es=>∃ ds t,w.heap[g]?=some (.cells ds t (0,0))/\c.2+cs.length<=ds.size/\VRs e cs ((ds.toList.drop c.2).take cs.length)/\(es ≠ 0->cs.length<=c.1 * es/\c.2+c.1 * es<=ds.size)/\(es=0->c.2=0/\ds.size=cs.length)
|.ro cs=>∃ ds t fz,w.heap[g]?=some (.cells ds t fz)/\c.2+cs.length<=ds.size/\VRs e cs ((ds.toList.drop c.2).take cs.length)
|.mp es=>∃ ents clock,w.heap[g]?=some (.map ents clock)/\(∀ p ∈ es,∃ x ∈ ents.toList,x.key=p.1/\VR e p.2 x.val)/\(∀ x ∈ ents.toList,∃ p ∈ es,x.key=p.1/\VR e p.2 x.val)/\es.Pairwise (fun p q=>p.1 ≠ q.1)/\ents.size=es.length
|.mark=>w.heap[g]?=some (.deferred (some []))
theorem OR.lt {e:En} {c:Nat × Nat} {o:AO} (h:OR e w g c o):g < w.heap.size:=by
 cases o with
|row cs es=>obtain ⟨ds,t,h,_⟩:=h;exact (Array.getElem?_eq_some_iff.1 h).1
|ro cs=>obtain ⟨ds,t,fz,h,_⟩:=h;exact (Array.getElem?_eq_some_iff.1 h).1
|mp es=>obtain ⟨ds,t,h,_⟩:=h;exact (Array.getElem?_eq_some_iff.1 h).1
|mark=>exact (Array.getElem?_eq_some_iff.1 (show w.heap[g]?=_ from h)).1
theorem OR.mono {e e':En} (he:e.le e') {w:World} {g:Nat} {c:Nat × Nat} {o:AO} (h:OR e w g c o):OR e' w g c o:=by
 cases o with
|row cs es=>obtain ⟨ds,t,h1,h0,h2,h3⟩:=h;exact ⟨ds,t,h1,h0,h2.mono he,h3⟩
|ro cs=>obtain ⟨ds,t,fz,h1,h0,h2⟩:=h;exact ⟨ds,t,fz,h1,h0,h2.mono he⟩
|mp es =>
  obtain ⟨ds,t,h1,h2,h3,h4⟩:=h;exact ⟨ds,t,h1,fun p hp=>(h2 p hp).imp fun x hx=>⟨hx.1,hx.2.1,hx.2.2.mono he⟩,fun x hx=>(h3 x hx).imp fun p hp=>⟨hp.1,hp.2.1,hp.2.2.mono he⟩,h4⟩
|mark=>exact h
theorem OR.block {e:En} {c:Nat × Nat} {o:AO} (h:OR e w g c o) (hb:w'.heap[g]?=w.heap[g]?):OR e w' g c o:=by
 cases o with
|row cs es=>obtain ⟨ds,t,h1,h2⟩:=h;exact ⟨ds,t,hb.trans h1,h2⟩
|ro cs=>obtain ⟨ds,t,fz,h1,h2⟩:=h;exact ⟨ds,t,fz,hb.trans h1,h2⟩
|mp es=>obtain ⟨ds,t,h1,h2⟩:=h;exact ⟨ds,t,hb.trans h1,h2⟩
|mark=>exact hb.trans h
structure Base where
 w:World
 K:Nat->Prop
 lt:∀ k,K k->k < w.heap.size
def Base.all (w:World):Base:=⟨w,fun k=>k < w.heap.size,fun _ h=>h⟩
structure Held (w0:Base) (w:World):Prop where
 os:w.os=w0.w.os
 tape:w.tape=w0.w.tape
 output:w.output=w0.w.output
 size:w0.w.heap.size<=w.heap.size
 block:∀ k,w0.K k->w.heap[k]?=w0.w.heap[k]?
theorem Held.refl (w0:Base):Held w0 w0.w:=⟨rfl,rfl,rfl,Nat.le_refl _,fun _ _=>rfl⟩
theorem Held.fresh {w0:Base} (h:Held w0 w) (hg:w.heap.size<=g):¬ w0.K g:=fun hk=>by
 have:=w0.lt g hk;have:=h.size;omega
theorem Held.grown {w0:Base} {row:Option Nat} (h:Held w0 w) (hg:w.grownBy w' row) (hr:∀ k,row=some k->¬ w0.K k):Held w0 w' :=
 ⟨hg.os.trans h.os,hg.tape.trans h.tape,hg.output.trans h.output,Nat.le_trans h.size hg.size,fun k hk=>(hg.block k (Nat.lt_of_lt_of_le (w0.lt k hk) h.size) (fun e=>hr k e.symm hk)).trans (h.block k hk)⟩
theorem Held.below {w0:Base} (h:Held w0 w) (hb:Below w.heap.size w w'):Held w0 w' :=
 ⟨hb.os.trans h.os,hb.tape.trans h.tape,hb.output.trans h.output,Nat.le_trans h.size hb.size,fun k hk=>(hb.block k (Nat.lt_of_lt_of_le (w0.lt k hk) h.size)).trans (h.block k hk)⟩
theorem Held.toBelow (h:Held (Base.all w) w'):Below w.heap.size w w':=⟨h.os,h.tape,h.output,h.size,h.block⟩
structure HX (e:En) (h:AH) (w0:Base) (w:World):Prop where
 below:Held w0 w
 small:h.n < BIG
 dom:∀ k x,e k=some x->k < h.n
 live:∀ k o,k < BIG->h.t.get k=some o->∃ g c,e k=some (g,c)/\¬ w0.K g/\OR e w g c o
 inj:∀ k k' o o' g c c',k < BIG->k' < BIG->h.t.get k=some o->h.t.get k'=some o'->e k=some (g,c)->e k'=some (g,c')->k=k'
theorem HX.lt {e:En} {w0:Base} (hr:HX e h w0 w) {x:Nat × Nat × Nat} (hk:e k=some x):k < BIG:=Nat.lt_trans (hr.dom k x hk) hr.small
theorem HX.at {e:En} {h:AH} {w0:Base} {w:World} (hr:HX e h w0 w) {k g:Nat} {c:Nat × Nat} {o:AO} (hk:e k=some (g,c)) (ho:h.t.get k=some o):¬ w0.K g/\OR e w g c o:=by
 obtain ⟨g',c',h1,h2,h3⟩:=hr.live k o (hr.lt hk) ho;rw [hk] at h1;cases h1;exact ⟨h2,h3⟩
theorem Tr.get_nil {α:Type} (k:Nat):(.nil:Tr α).get k=none:=Tr.at_nil _
theorem HX.nil (w0:Base):HX (fun _=>none) ⟨.nil,0⟩ w0 w0.w where
 below:=Held.refl _
 small:=by decide
 dom:=fun _ _ h=>(by cases h)
 live:=fun k o _ h=>(by rw [Tr.get_nil] at h;cases h)
 inj:=fun k k' o o' g c c' _ _ h=>(by rw [Tr.get_nil] at h;cases h)
open Go Go.RowKit
variable {h':AH} {ds:A_} {b:Bool} {e':En} {cs z:L_} {a g k n off:Nat} {x:OV} {t ty:TypeId} {w':World}
section
variable {α:Type}
theorem DL:∀ (cs:List α) (n:Nat),lat cs n=cs[n]?
|[],0=>rfl
|[],n+1=>rfl
|c::cs,0=>rfl
|c::cs,n+1=>by rw [List.getElem?_cons_succ,<- DL cs n];rfl
theorem SV:∀ (n:Nat) (cs l:List α),ltk n cs=some l->l=cs.take n/\n<=cs.length
|0,cs,l,h=>by cases h;simp
|n+1,[],l,h=>by cases h
|n+1,c::cs,l,h=>by
  have h':(match ltk n cs with|some m=>some (c::m)|none=>none)=some l:=by
   rw [<- h];show _=Option.rec (motive:=fun _=>Option (List α)) none (fun m=>some (c::m)) (ltk n cs);cases ltk n cs<;>rfl
  cases hm:ltk n cs with
 |none=>rw [hm] at h';cases h'
 |some m =>
   rw [hm] at h';cases h';obtain ⟨rfl,h2⟩:=SV n cs m hm;exact ⟨by simp,by simp;omega⟩
theorem Ef:∀ (off:Nat) (cs:List α) (n:Nat) (l:List α),QE cs off n=some l->l=(cs.drop off).take n/\off+n<=cs.length
|0,cs,n,l,h=>by
  obtain ⟨h1,h2⟩:=SV n cs l h;exact ⟨by simpa using h1,by omega⟩
|off+1,[],n,l,h=>by cases h
|off+1,c::cs,n,l,h=>by
  obtain ⟨h1,h2⟩:=Ef off cs n l h;exact ⟨by simpa using h1,by simp;omega⟩
theorem SX:∀ (vs cs l:List α),Qk vs cs=some l->l=vs++cs.drop vs.length/\vs.length<=cs.length
|[],cs,l,h=>by cases h;simp
|v::vs,[],l,h=>by cases h
|v::vs,c::cs,l,h=>by
  have h':(match Qk vs cs with|some m=>some (v::m)|none=>none)=some l:=by
   rw [<- h];show _=Option.rec (motive:=fun _=>Option (List α)) none (fun m=>some (v::m)) (Qk vs cs);cases Qk vs cs<;>rfl
  cases hm:Qk vs cs with
 |none=>rw [hm] at h';cases h'
 |some m =>
   rw [hm] at h';cases h';obtain ⟨rfl,h2⟩:=SX vs cs m hm;exact ⟨by simp,by simp;omega⟩
theorem I7:∀ (off:Nat) (cs vs l:List α),KJ cs off vs=some l->l=cs.take off++vs++cs.drop (off+vs.length)/\off+vs.length<=cs.length
|0,cs,vs,l,h=>by
  obtain ⟨h1,h2⟩:=SX vs cs l h;exact ⟨by simpa using h1,by omega⟩
|off+1,[],vs,l,h=>by cases h
|off+1,c::cs,vs,l,h=>by
  have h':(match KJ cs off vs with|some m=>some (c::m)|none=>none)=some l:=by
   rw [<- h];show _=Option.rec (motive:=fun _=>Option (List α)) none (fun m=>some (c::m)) (KJ cs off vs);cases KJ cs off vs<;>rfl
  cases hm:KJ cs off vs with
 |none=>rw [hm] at h';cases h'
 |some m =>
   rw [hm] at h';cases h';obtain ⟨rfl,h2⟩:=I7 off cs vs m hm;refine ⟨?_,by simp;omega⟩;rw [List.take_succ_cons,show off+1+vs.length=(off+vs.length)+1 by omega,List.drop_succ_cons];simp
end
theorem JI {α:Type}:∀ (n:Nat) (cs:List α),Vu n cs=true->cs.length=n
|0,[],_=>rfl
|0,_::_,h=>by cases h
|_+1,[],h=>by cases h
|n+1,_::cs,h=>by rw [List.length_cons,JI n cs h]
theorem Ru {α:Type}:∀ (a b:List α),rP a b=true->a.length=b.length
|[],[],_=>rfl
|[],_::_,h=>by cases h
|_::_,[],h=>by cases h
|_::a,_::b,h=>by rw [List.length_cons,List.length_cons,Ru a b h]
theorem jg {α:Type}:∀ (cs:List α),ltk cs.length cs=some cs
|[]=>rfl
|c::cs=>by
  show Option.rec (motive:=fun _=>Option (List α)) none (fun m=>some (c::m)) (ltk cs.length cs)=_;rw [jg cs]
theorem Vr {α:Type}:∀ (vs cs:List α),cs.length=vs.length->Qk vs cs=some vs
|[],[],_=>rfl
|[],_::_,h=>by cases h
|_::_,[],h=>by cases h
|v::vs,_::cs,h=>by
  show Option.rec (motive:=fun _=>Option (List α)) none (fun m=>some (v::m)) (Qk vs cs)=_;rw [Vr vs cs (by simpa using h)]
theorem YP {α:Type} (cs:List α) (off n:Nat):uZ cs off n=QE cs off n:=by
 unfold uZ;cases hb:Nat.beq off 0 with
|false=>rfl
|true =>
  have:=n_q hb;subst this;cases hl:Vu n cs with
 |false=>rfl
 |true =>
   have:=JI _ _ hl;subst this;exact (jg cs).symm
theorem YQ {α:Type} (cs:List α) (off:Nat) (vs:List α):ji cs off vs=KJ cs off vs:=by
 unfold ji;cases hb:Nat.beq off 0 with
|false=>rfl
|true =>
  have:=n_q hb;subst this;cases hl:rP cs vs with
 |false=>rfl
 |true=>exact (Vr vs cs (Ru _ _ hl)).symm
theorem Ov (v:Value):VQ v=cell1 v:=by cases v<;>rfl
theorem LK:∀ l:L_,xQ l=l.all cell1
|[]=>rfl
|v::l=>by
  show cond (VQ v) (xQ l) false=_;rw [Ov,LK l,List.all_cons];cases cell1 v<;>rfl
theorem O1:∀ (n:Nat) (l:L_),QM n l=true->l.length=n/\l.all cell1=true
|0,[],_=>⟨rfl,rfl⟩
|0,_::_,h=>by cases h
|_+1,[],h=>by cases h
|n+1,v::l,h=>by
  have h':cond (VQ v) (QM n l) false=true:=h;rw [Ov] at h';cases hv:cell1 v with
 |false=>rw [hv] at h';cases h'
 |true =>
   rw [hv] at h';obtain ⟨h1,h2⟩:=O1 n l h';exact ⟨by rw [List.length_cons,h1],by rw [List.all_cons,hv,h2];rfl⟩
theorem VRs.take {e:En}:∀ {a b:L_} (n:Nat),VRs e a b->VRs e (a.take n) (b.take n)
|_,_,0,_=>by simp;exact .nil
|_,_,n+1,.nil=>by simp;exact .nil
|_,_,n+1,.cons h t=>by simp;exact .cons h (t.take n)
theorem VRs.drop {e:En}:∀ {a b:L_} (n:Nat),VRs e a b->VRs e (a.drop n) (b.drop n)
|_,_,0,h=>by simpa using h
|_,_,n+1,.nil=>by simp;exact .nil
|_,_,n+1,.cons h t=>by simp;exact t.drop n
theorem Js {e:En} {z y:L_} (h:VRs e z y):∀ n,VRs e (BK z n) (BK y n)
|0=>.nil
|n+1=>h.append (Js h n)
section
variable {P:Program}
theorem OH (h:XE P t=some b) (w:World):(isAgg t).run P w=.ok b w:=by
 unfold XE at h;cases hu:P.underlying t with
|none=>rw [hu] at h;cases h
|some d =>
  rw [hu] at h;unfold isAgg;rw [s_b,r_u hu w];cases d<;>simp_all
theorem bD (h:sizeT P t=some n):(P.info? t).map (·.size)=some n:=by
 unfold sizeT at h;cases hi:P.info? t with
|none=>rw [hi] at h;cases h
|some i=>rw [hi] at h;simpa using h
theorem A7j (h:sizeT P t=some n) (w:World):(sizeOf t).run P w=.ok n w:=by
 unfold sizeT at h;cases hi:P.info? t with
|none=>rw [hi] at h;cases h
|some i=>rw [hi] at h;simp at h;subst h;simp [sizeOf,typeInfo,hi]
theorem xU (ha:XE P t=some true) (hs:sizeT P t=some n):Aq P t n:=⟨OH ha,bD hs⟩
theorem VRs.self {e:En}:∀ {l:L_},l.all BM=true->VRs e l l
|[],_=>.nil
|v::l,h=>by
  rw [List.all_cons,b_t] at h;exact .cons (GN h.1) (VRs.self h.2)
theorem F9 (h:G8 P t=some z):∃ i v,P.info? t=some i/\i.zero=some v/\v.cells.toList=z/\z.all BM=true/\z.length=i.size:=by
 unfold G8 at h;cases hi:P.info? t with
|none=>rw [hi] at h;cases h
|some i =>
  rw [hi] at h;cases hz:i.zero with
 |none=>simp [hz] at h
 |some v =>
   simp only [hz] at h;cases hc:(v.cells.toList.all BM && Nat.beq v.cells.size i.size) with
  |false=>rw [hc] at h;cases h
  |true =>
    rw [hc] at h;cases h;rw [b_t] at hc;exact ⟨i,v,rfl,hz,rfl,hc.1,by rw [Array.length_toList];exact n_q hc.2⟩
theorem V5 (h:G8 P t=some z) (w:World):∃ v,(zeroValue t).run P w=.ok v w/\v.cells.toList=z:=by
 obtain ⟨i,v,h1,h2,h3,_⟩:=F9 h;exact ⟨v,by simp [zeroValue,typeInfo,h1,h2],h3⟩
theorem XO {e:En} (h:G8 P t=some z):VRs e z z:=by
 obtain ⟨i,v,_,_,_,h4,_⟩:=F9 h;exact VRs.self h4
variable {e:En} {h:AH} {w0:Base} {w:World}
def LY (w:World) (g:Nat) (ds:A_):Prop:=∀ i,w.cell? ⟨g,i,none⟩=ds[i]?
theorem LY.cell {g:Nat} {ds:A_} (h:LY w g ds) (i:Nat):w.cell? ⟨g,i,none⟩=ds[i]?:=h i
theorem A3y {fz:Nat × Nat} (h:w.heap[g]?=some (.cells ds t fz)):LY w g ds:=fun i=>by
 unfold World.cell?;rw [h];rfl
theorem Gs {α:Type}:∀ (a b:List α),app a b=a++b
|[],b=>rfl
|x::a,b=>by
  show x::app a b=_;rw [Gs a b];rfl
theorem AH.Yb (hc:h.row k=some cs):(∃ es,h.t.get k=some (.row cs es))\/h.t.get k=some (.ro cs):=by
 unfold AH.row at hc;split at hc
 ·rename_i cs' es he;cases hc;exact .inl ⟨es,he⟩
 ·rename_i cs' he;cases hc;exact .inr he
 ·cases hc
theorem HX.rowIs (hr:HX e h w0 w) {c:Nat × Nat} (hk:e k=some (g,c)) (ho:h.row k=some cs):∃ ds,LY w g ds/\VRs e cs ((ds.toList.drop c.2).take cs.length)/\c.2+cs.length<=ds.size:=by
 rcases AH.Yb ho with ⟨es,ho⟩|ho
 ·obtain ⟨_,ds,t,h1,h0,h2,_⟩:=hr.at hk ho;exact ⟨ds,A3y h1,h2,h0⟩
 ·obtain ⟨_,ds,t,fz,h1,h0,h2⟩:=hr.at hk ho;exact ⟨ds,A3y h1,h2,h0⟩
theorem Ub (hr:HX e h w0 w) {v:Value} (hx:ZR P t x h=some v):∃ k off,x=some (.pointer (some ⟨k,off,none⟩))/\∀ g c,e k=some (g,c)->∃ cs,h.row k=some cs/\apart P t cs off=some v:=by
 unfold ZR at hx;split at hx
 ·rename_i k off;refine ⟨k,off,rfl,fun g c hk=>?_⟩;split at hx
  ·rename_i cs hc;exact ⟨cs,hc,hx⟩
  ·cases hx
 ·cases hx
theorem UE {cs:A_} (hr:LY w g cs) (ht:Aq P ty n) (hf:off+n<=cs.size):(loadVar ty ⟨g,off,none⟩).run P w=.ok (.agg (cs.extract off (off+n))) w:=by
 have hlen:(cs.extract off (off+n)).toList.length=n:=by simp;omega
 have hl:(loadCells ⟨g,off,none⟩ (cs.extract off (off+n)).toList.length).run P w=.ok (cs.extract off (off+n)).toList.toArray w :=
  run_loadCells_list (P:=P) w ⟨g,off,none⟩ (cs.extract off (off+n)).toList (fun j v hv=>by
   rw [Addr.add_lit,hr.cell (off+j)];simp only [a_g,Array.getElem?_extract] at hv;split at hv
   ·exact hv
   ·cases hv)
 rw [hlen] at hl;cases hq:P.info? ty with
|none=>have:=ht.size;simp [hq] at this
|some i =>
  have hs:i.size=n:=by have:=ht.size;simpa [hq] using this
  simp only [Array.toArray_toList] at hl;simp [loadVar,s_b,ht.agg,sizeOf,typeInfo,hq,hs,hl]
theorem Ht {α:Type} (l:List α) {b:Nat} (h:a+b<=n):((l.take n).drop a).take b=(l.drop a).take b:=by
 rw [List.drop_take,List.take_take]
 congr 1
 omega
theorem U9 {d:Nat} {v:Value} (ha:apart P t cs off=some v) (hrow:LY w g ds) (hv:VRs e cs ((ds.toList.drop d).take cs.length)) (hl:d+cs.length<=ds.size):∃ u,(loadVar t ⟨g,off+d,none⟩).run P w=.ok u w/\VR e v u:=by
 unfold apart at ha;cases hg:XE P t with
|none=>rw [hg] at ha;cases ha
|some b =>
  rw [hg] at ha;cases b with
 |true =>
   simp only at ha;cases hs:sizeT P t with
  |none=>rw [hs] at ha;cases ha
  |some n =>
    rw [hs] at ha;simp only [YP] at ha;cases hq:QE cs off n with
   |none=>rw [hq] at ha;cases ha
   |some l =>
     rw [hq] at ha;cases ha;obtain ⟨rfl,h2⟩:=Ef _ _ _ _ hq;refine ⟨_,UE hrow (xU hg hs) (by omega),?_⟩;have h3:=(hv.drop off).take n;rw [Ht _ h2,List.drop_drop,Nat.add_comm d off] at h3
     have:ds.extract (off+d) (off+d+n)=((ds.toList.drop (off+d)).take n).toArray:=by
      apply Array.ext';simp [List.take_drop]
     rw [this];exact .agg h3
 |false =>
   simp only [DL] at ha;obtain ⟨u,h1,h2⟩:=hv.get ha;have hoff:off < cs.length:=(List.getElem?_eq_some_iff.1 ha).1;rw [List.getElem?_take_of_lt hoff,List.getElem?_drop,a_g,Nat.add_comm d off] at h1;refine ⟨u,?_,h2⟩;have hc:w.cell? ⟨g,off+d,none⟩=some u:=by rw [hrow.cell,h1]
   simp [loadVar,s_b,OH hg,load,Sem.run,hc]
theorem JV {ds:L_} {v:Value} (ha:apart P t cs off=some v) (hv:VRs e cs ds) (w:World):∃ u,(part t ds.toArray off).run P w=.ok u w/\VR e v u:=by
 unfold apart at ha;cases hg:XE P t with
|none=>rw [hg] at ha;cases ha
|some b =>
  rw [hg] at ha;cases b with
 |true =>
   simp only at ha;cases hs:sizeT P t with
  |none=>rw [hs] at ha;cases ha
  |some n =>
    rw [hs] at ha;simp only [YP] at ha;cases hq:QE cs off n with
   |none=>rw [hq] at ha;cases ha
   |some l =>
     rw [hq] at ha;cases ha;obtain ⟨rfl,h2⟩:=Ef _ _ _ _ hq;refine ⟨.agg (ds.toArray.extract off (off+n)),?_,?_⟩
     ·simp [part,s_b,OH hg,A7j hs]
     ·have:ds.toArray.extract off (off+n)=((ds.drop off).take n).toArray:=by
       apply Array.ext';simp [List.take_drop]
      rw [this];exact .agg ((hv.drop off).take n)
 |false =>
   simp only [DL] at ha;obtain ⟨u,h1,h2⟩:=hv.get ha;refine ⟨u,?_,h2⟩;simp [part,s_b,OH hg,h1]
theorem HX.next {row:Option Nat} (hr:HX e h w0 w) (he:e.le e') (hg:w.grownBy w' row) (hrow:∀ g,row=some g->¬ w0.K g) (hn:h'.n < BIG) (hd:∀ k x,e' k=some x->k < h'.n)
  (hold:∀ k o,k < BIG->h'.t.get k=some o->(h.t.get k=some o/\∀ g c,e k=some (g,c)->row ≠ some g)\/∃ g c,e' k=some (g,c)/\¬ w0.K g/\OR e' w' g c o/\∀ k2 o2,k2 < BIG->k2 ≠ k->h'.t.get k2=some o2->∀ c2,e' k2 ≠ some (g,c2)):HX e' h' w0 w':=by
 refine ⟨hr.below.grown hg hrow,hn,hd,?_,?_⟩
 ·intro k o hk ho;rcases hold k o hk ho with ⟨h1,h2⟩|⟨g,c,h1,h2,h3,_⟩
  ·obtain ⟨g,c,h3,h4,h5⟩:=hr.live k o hk h1;exact ⟨g,c,he _ _ h3,h4,(h5.block (hg.block g h5.lt (fun e=>h2 g c h3 e.symm))).mono he⟩
  ·exact ⟨g,c,h1,h2,h3⟩
 ·intro k k' o o' g c c' hk hk' ho ho' h1 h2;by_cases hkk:k=k'
  ·exact hkk
  exfalso;rcases hold k o hk ho with ⟨a1,a2⟩|⟨g1,c1,a1,a2,a3,a4⟩
  ·rcases hold k' o' hk' ho' with ⟨b1,b2⟩|⟨g2,c2,b1,b2,b3,b4⟩
   ·obtain ⟨g1,c1,a3,_,_⟩:=hr.live k o hk a1;obtain ⟨g2,c2,b3,_,_⟩:=hr.live k' o' hk' b1;have e1:=he _ _ a3;have e2:=he _ _ b3;rw [h1] at e1;rw [h2] at e2;cases e1;cases e2;exact hkk (hr.inj k k' o o' g c c' hk hk' a1 b1 a3 b3)
   ·rw [h2] at b1;cases b1;exact b4 k o hk hkk ho c h1
  ·rw [h1] at a1;cases a1;exact a4 k' o' hk' (fun e=>hkk e.symm) ho' c' h2
theorem HX.upd (hr:HX e h w0 w) {c:Nat × Nat} {o o':AO} (hk:e k=some (g,c)) (ho:h.t.get k=some o) (hg:w.grownBy w' (some g)) (hn:OR e w' g c o'):HX e ⟨h.t.put k (some o'),h.n⟩ w0 w':=by
 have hkB:=hr.lt hk;refine hr.next (En.le.refl e) hg (fun g' e=>by cases e;exact (hr.at hk ho).1) hr.small hr.dom ?_;intro k1 o1 hk1 h1;simp only [Tr.get_put _ _ hkB hk1] at h1;by_cases hkk:k1=k
 ·subst hkk;rw [if_pos rfl] at h1;cases h1;refine .inr ⟨g,c,hk,(hr.at hk ho).1,hn,?_⟩;intro k2 o2 hk2 hne h2 c2 e2;simp only [Tr.get_put _ _ hkB hk2,if_neg hne] at h2;exact hne (hr.inj k2 k1 o2 o g c2 c hk2 hkB h2 ho e2 hk)
 ·rw [if_neg hkk] at h1;exact .inl ⟨h1,fun g1 c1 e1 e2=>by cases e2;exact hkk (hr.inj k1 k o1 o g c1 c hk1 hkB h1 ho e1 hk)⟩
def En.add (e:En) (n g:Nat) (c:Nat × Nat):En:=fun j=>if j=n then some (g,c) else e j
theorem En.JK {e:En} {c:Nat × Nat} (hn:e n=none):e.le (e.add n g c):=fun k x hk=>by
 unfold En.add;by_cases h:k=n
 ·subst h;rw [hn] at hk;cases hk
 ·rw [if_neg h];exact hk
theorem En.EG {e:En} {c:Nat × Nat}:(e.add n g c) n=some (g,c):=by simp [En.add]
theorem HX.fresh (hr:HX e h w0 w):e h.n=none:=by
 cases hh:e h.n with
|none=>rfl
|some x=>exact absurd (hr.dom _ _ hh) (Nat.lt_irrefl _)
theorem HX.Xr (hr:HX e h w0 w) (g:Nat) (c:Nat × Nat):∀ k x,(e.add h.n g c) k=some x->k < h.n+1:=by
 intro k x hk;unfold En.add at hk;split at hk
 ·omega
 ·exact Nat.lt_succ_of_lt (hr.dom k x hk)
theorem AH.KH {o:AO} (hn:h.new o=some (k,h')):k=h.n/\h'=⟨h.t.put h.n (some o),h.n+1⟩/\h.n+1 < BIG:=by
 unfold AH.new at hn;rw [JM] at hn;cases hb:Nat.ble h.n 16000000 with
|false=>rw [hb] at hn;cases hn
|true =>
  rw [hb] at hn;cases hn;have:=n_l hb;exact ⟨rfl,rfl,by show _ < 16777216;omega⟩
theorem HX.add {w':World} (hr:HX e h w0 w) {o:AO} {k:Nat} {h':AH} (hnew:h.new o=some (k,h')) {g:Nat} {c:Nat × Nat} (hg:w.grownBy w' none) (hgw:w.heap.size<=g) (hn:OR (e.add h.n g c) w' g c o):k=h.n/\e.le (e.add h.n g c)/\HX (e.add h.n g c) h' w0 w':=by
 obtain ⟨rfl,rfl,hb⟩:=AH.KH hnew;refine ⟨rfl,En.JK hr.fresh,hr.next (En.JK hr.fresh) hg (fun g e=>by cases e) hb (hr.Xr g c) ?_⟩;intro k1 o1 hk1 h1;simp only [Tr.get_put _ _ (Nat.lt_of_succ_lt hb) hk1] at h1;by_cases hkk:k1=h.n
 ·subst hkk;rw [if_pos rfl] at h1;cases h1;refine .inr ⟨g,c,En.EG,hr.below.fresh hgw,hn,?_⟩;intro k2 o2 hk2 hne h2 c2 e2;simp only [Tr.get_put _ _ hk1 hk2,if_neg hne] at h2;simp only [En.add,if_neg hne] at e2;have:=(hr.at e2 h2).2.lt;omega
 ·rw [if_neg hkk] at h1;exact .inl ⟨h1,fun g1 c1 _ e2=>by cases e2⟩
end
end Go.Proofs.YtkpbhdhkdonghaaGreat
