/-
  Part 36 of the proof.
-/
import Derived.Test.YtkpbhdhkdonghaaGreatA10
import Derived.Test.YtkpbhdhkdonghaaGreatA35
set_option linter.all false
namespace Go.Proofs.YtkpbhdhkdonghaaGreat
open Go Go.RowKit
section
variable {P:Program}
theorem Ee {f:FuncId} {v u:Value} {e:En} {h:AH} {w0:Base} {w:World} {args:L_} (hc:Calls P f args.toArray w (RB w u)) (hv:VR e v u) (hr:HX e h w0 w) :
  Calls P f args.toArray w fun x w'=>∃ u e',x=.returned u/\e.le e'/\VR e' v u/\HX e' h w0 w':=by
 refine Calls.mono hc ?_;rintro x w' ⟨rfl,hb⟩;refine ⟨u,e,rfl,En.le.refl e,hv,⟨hr.below.below hb,hr.small,hr.dom,fun k o hk ho=>?_,hr.inj⟩⟩;exact xg4
end
open Go Tryz Go.RowKit
noncomputable section
variable {h h':AH} {w0:Base} {e:En} {args args':L_} {a b:Value} {w w':World}
def Qe:L_->Option N_
 |[]=>some []
 |v::l=>match v with
   |.int .u8 (.ofNat n)=>cond (Nat.ble n 255) (match Qe l with|some m=>some (n::m)|none=>none) none
   |_=>none
def u8Q (v:Value):Option Nat :=
  Value.rec (motive_1:=fun _=>Option Nat) (motive_2:=fun _=>Option Nat) (motive_3:=fun _=>Option Nat) (fun _=>none) (fun k n=>cond (Nat.beq (Fe k) 4) (Int.rec (motive:=fun _=>Option Nat) (fun m=>cond (Nat.ble m 255) (some m) none) (fun _=>none) n) none) (fun _ _=>none) (fun _ _ _=>none) (fun _=>none) (fun _=>none) (fun _ _ _=>none) (fun _=>none) (fun _=>none) (fun _ _ _ _ _=>none) none (fun _ _ _=>none) none (fun _ _=>none) (fun _ _=>none) (fun _ _=>none) none (fun _ _ _ _=>none) v
def qL (l:L_):Option N_ :=
  List.rec (motive:=fun _=>Option N_) (some []) (fun v _ ih=>Option.rec (motive:=fun _=>Option N_) none (fun x=>Option.rec (motive:=fun _=>Option N_) none (fun m=>some (x::m)) ih) (u8Q v)) l
def intQ (k:IntKind) (n:Int) (b:Value):Bool :=
  Value.rec (motive_1:=fun _=>Bool) (motive_2:=fun _=>Bool) (motive_3:=fun _=>Bool) (fun _=>false) (fun j m=>cond (Nat.beq (Fe k) (Fe j)) (Int.rec (motive:=fun _=>Bool) (fun x=>Int.rec (motive:=fun _=>Bool) (fun y=>Nat.beq x y) (fun _=>false) m) (fun _=>false) n) false) (fun _ _=>false) (fun _ _ _=>false) (fun _=>false) (fun _=>false) (fun _ _ _=>false) (fun _=>false) (fun _=>false) (fun _ _ _ _ _=>false) false (fun _ _ _=>false) false (fun _ _=>false) (fun _ _=>false) (fun _ _=>false) false (fun _ _ _ _=>false) b
def nN (a b:Value):Bool :=
  Value.rec (motive_1:=fun _=>Bool) (motive_2:=fun _=>Bool) (motive_3:=fun _=>Bool) (fun _=>false) (fun k n=>intQ k n b) (fun _ _=>false) (fun _ _ _=>false) (fun _=>false) (fun _=>false) (fun _ _ _=>false) (fun _=>false) (fun _=>false) (fun _ _ _ _ _=>false) false (fun _ _ _=>false) false (fun _ _=>false) (fun _ _=>false) (fun _ _=>false) false (fun _ _ _ _=>false) a
def eqQ (a b:L_):Bool :=
  List.rec (motive:=fun _=>L_->Bool) (fun l=>List.rec (motive:=fun _=>Bool) true (fun _ _ _=>false) l) (fun x _ ih l=>List.rec (motive:=fun _=>Bool) false (fun y t _=>cond (nN x y) (ih t) false) l) a b
def lZ (c:Nat):N_->Nat->Int
 |[],_=>.negSucc 0
 |x::l,i=>cond (Nat.beq x c) (.ofNat i) (lZ c l (Nat.add i 1))
def aV (args:L_) (h:AH):Option (Option (Value × AH)):=match args with
 |[.slice a n c,.int .u8 (.ofNat x)]=>cond (Nat.ble 1 n && Nat.ble x 255) (match JW 1 n h (.slice a n c) with
   |some vs=>match qL vs with
     |some l=>fint (lZ x l 0) fun z=>some (some (.int .i64 z,h))
     |none=>none
   |none=>none) none
 |_=>none
theorem Ws:∀ l:L_,qL l=Qe l
 |[]=>rfl
 |v::l=>by
    have h0:qL (v::l)=Option.rec (motive:=fun _=>Option N_) none (fun x=>Option.rec (motive:=fun _=>Option N_) none (fun m=>some (x::m)) (qL l)) (u8Q v):=rfl;rw [h0,Ws l];cases v with
   |int k n =>
      cases k<;>first
       |(cases n with
          |ofNat m =>
             show Option.rec (motive:=fun _=>Option N_) none _ (cond (Nat.ble m 255) (some m) none)=cond (Nat.ble m 255) _ none;cases Nat.ble m 255 with
            |false=>rfl
            |true=>cases Qe l<;>rfl
          |negSucc m=>rfl)
       |(cases n<;>rfl)
   |_=>rfl
theorem jC (h:nN a b=true):a=b:=by
  cases a with
 |int k n =>
    cases b with
   |int j m =>
      have h':cond (Nat.beq (Fe k) (Fe j)) (Int.rec (motive:=fun _=>Bool) (fun x=>Int.rec (motive:=fun _=>Bool) (fun y=>Nat.beq x y) (fun _=>false) m) (fun _=>false) n) false=true:=h;cases hk:Nat.beq (Fe k) (Fe j) with
     |false=>rw [hk] at h';cases h'
     |true =>
        rw [hk] at h';have e1:=Io hk;subst e1;cases n with
       |ofNat x =>
          cases m with
         |ofNat y =>
            have h':Nat.beq x y=true:=h';rw [n_q h']
         |negSucc y=>cases h'
       |negSucc x=>cases h'
   |_=>cases h
 |_=>cases h
theorem PI:∀ {a b:L_},eqQ a b=true->a=b
 |[],[],_=>rfl
 |[],_::_,h=>by cases h
 |_::_,[],h=>by cases h
 |x::a,y::b,h=>by
    have h':cond (nN x y) (eqQ a b) false=true:=h;cases hx:nN x y with
   |false=>rw [hx] at h';cases h'
   |true =>
      rw [hx] at h';rw [jC hx,PI h']
theorem A0h {β:Type} (z:Int) (k:Int->β):fint z k=k z:=by
  cases z<;>rfl
theorem Yq:∀ (l:N_) (c i:Nat),lZ c l i=if pos (l.map Int.ofNat) c=-1 then -1 else pos (l.map Int.ofNat) c+i
 |[],c,i=>by simp [lZ,pos]
 |x::l,c,i=>by
    show cond (Nat.beq x c) (.ofNat i) (lZ c l (i+1))=_;cases hb:Nat.beq x c with
   |true =>
      have:=n_q hb;subst this;simp [pos,List.findIdx_cons]
   |false =>
      have hne:¬ x=c:=fun h=>by subst h;rw [Nat.beq_refl] at hb;cases hb
      have hne':(Int.ofNat x == (c:Int))=false:=by
        rw [beq_eq_false_iff_ne];intro h;exact hne (Int.ofNat.inj h)
      simp only [cond_false];rw [Yq l c (i+1)]
      have hp:pos (List.map Int.ofNat (x::l)) c=if pos (l.map Int.ofNat) c=-1 then -1 else pos (l.map Int.ofNat) c+1:=by
        simp only [pos,List.map_cons,List.findIdx_cons,hne',cond_false,List.length_cons];split<;>split<;>first|omega|(split<;>omega)
      rw [hp]
      have hge:pos (l.map Int.ofNat) c=-1\/0<=pos (l.map Int.ofNat) c:=by
        simp only [pos];split<;>omega
      rcases hge with h1|h1
      · rw [if_pos h1,if_pos h1,if_pos rfl]
      · rw [if_neg (by omega),if_neg (by omega),if_neg (by omega)]
        push_cast;omega
theorem JB {e:En}:∀ {l us:L_} {m:N_},Qe l=some m->VRs e l us->us=m.map (fun n=>Value.int .u8 (Int.ofNat n))/\∀ x ∈ m,x<=255
 |[],us,m,h,hv=>by
    cases h;cases hv;exact ⟨rfl,fun x hx=>by cases hx⟩
 |v::l,us,m,h,hv=>by
    unfold Qe at h;split at h
    · rename_i n
      cases hb:Nat.ble n 255 with
     |false=>rw [hb] at h;cases h
     |true =>
        rw [hb] at h;simp only [cond_true] at h;split at h
        · rename_i m' hm
          cases h;cases hv with
         |cons h1 h2 =>
            cases h1;obtain ⟨q1,q2⟩:=JB hm h2;refine ⟨by rw [q1];rfl,fun x hx=>?_⟩;rcases List.mem_cons.1 hx with rfl|hx
            · exact n_l hb
            · exact q2 x hx
        · cases h
    · cases h
theorem kU {v:Value} (hx:aV args h=some (some (v,h'))) (hv:VRs e args args') (hr:HX e h w0 w) :
    Calls prog 258 args'.toArray w fun x w'=>∃ u e',x=.returned u/\e.le e'/\VR e' v u/\HX e' h' w0 w':=by
  unfold aV at hx;split at hx
  · rename_i a n c x
    cases hb:(Nat.ble 1 n && Nat.ble x 255) with
   |false=>rw [hb] at hx;cases hx
   |true =>
      rw [hb] at hx;simp only [cond_true] at hx;rw [b_t] at hb;have hn:=n_l hb.1;have hx255:=n_l hb.2;split at hx
      · rename_i vs0 hel
        split at hx
        · rename_i l hl
          rw [Ws] at hl;rw [A0h] at hx;cases hx;cases hv with
         |cons hv1 hv2 =>
          cases hv2 with
         |cons hv2 hv3 =>
          cases hv3;cases hv2;obtain ⟨g,off,m,c',us,e1,e2,⟨_,_,e3⟩,e4,e5,e6⟩:=FB hr hel hv1 (fun _ _ _ h=>by cases h;exact Nat.le_refl _) (by omega);cases e3;subst e1;obtain ⟨q1,q2⟩:=JB hl e4;have hlen:l.length=n:=by rw [<- Nat.mul_one n,<- e5,q1,List.length_map]
          have hc:=UJ g off n c' (l.map Int.ofNat) (x:Int) w (by simp [hlen]) (fun y hy=>by
            obtain ⟨k,hk,rfl⟩:=List.mem_map.1 hy;have:=q2 k hk
            exact ⟨Int.natCast_nonneg _,by show (k:Int) < 256;omega⟩) ⟨Int.natCast_nonneg _,by omega⟩ (fun i hi=>by
            have:=e6 i (.int .u8 ((l.map Int.ofNat).getD i 0)) (by
              rw [q1,List.getElem?_map];have h1:i < l.length:=by omega
              rw [l_e h1]
              simp [l_e h1])
            rw [Addr.add_lit] at this
            exact this)
          refine hc.mono ?_;rintro ed w' ⟨rfl,rfl⟩;refine ⟨_,e,rfl,En.le.refl e,?_,hr⟩
          have:lZ x l 0=pos (l.map Int.ofNat) x:=by
            rw [Yq];split
            · rename_i h1;rw [h1]
            · simp
          rw [this];exact .int _ _
        · cases hx
      · cases hx
  · cases hx
theorem below_grown (hb:Below w.heap.size w w'):w.grownBy w' none:=⟨hb.os,hb.tape,hb.output,hb.size,fun k hk _=>hb.block k hk⟩
end
open Go Go.RowKit
variable {h1:AH} {S:QG} {e:En} {args:L_} {P:Program} {a b u:Value}
theorem TB {e:En}:∀ {l m:L_},l.all BM=true->VRs e l m->m=l
|_,_,_,.nil=>rfl
|_,_,h,.cons hv ht=>by
  rw [List.all_cons,b_t] at h;rw [Zi h.1 hv,TB h.2 ht]
theorem A12 {v:Value} (h:Nq v=true) (hv:VR e v u):u=v:=by
 cases hv with
|agg ha=>rw [TB (by simpa [Nq] using h) ha]
|_=>exact Zi (e:=e) (by simpa [Nq] using h) (by constructor<;>assumption)
theorem l7 {e:En}:∀ {l m:L_},l.all Nq=true->VRs e l m->m=l
|_,_,_,.nil=>rfl
|_,_,h,.cons hv ht=>by
  rw [List.all_cons,b_t] at h;rw [A12 h.1 hv,l7 h.2 ht]
theorem tq {v:Value} (h:Nq v=true):VR e v v:=by
 unfold Nq at h;split at h
 ·rename_i cs;exact .agg (a:=cs.toList) (a':=cs.toList) (VRs.self h)
 ·exact GN h
theorem l9 {e:En}:∀ {l:L_},l.all Nq=true->VRs e l l
|[],_=>.nil
|v::l,h=>by
  rw [List.all_cons,b_t] at h;exact .cons (tq h.1) (l9 h.2)
theorem A8B {v:Value} (h:Nr v=true):VR e v v:=by
 unfold Nr at h;split at h
 ·rename_i vs;exact .tuple (a:=vs.toList) (a':=vs.toList) (l9 h)
 ·exact tq h
theorem A8E {v:Value} (h:Nr v=true) (hv:VR e v u):u=v:=by
 cases hv with
|tuple ha=>rw [l7 (by simpa [Nr] using h) ha]
|_=>exact A12 (e:=e) (by simpa [Nr] using h) (by constructor<;>assumption)
noncomputable def vQ (a b:Value):Bool:=match a,b with
|.agg x,.agg y=>eqQ x.toList y.toList
|a,b=>nN a b
noncomputable def vsQ:L_->L_->Bool
|[],[]=>true
|a::l,b::m=>cond (vQ a b) (vsQ l m) false
|_,_=>false
theorem vQ_eq (h:vQ a b=true):a=b:=by
 unfold vQ at h;split at h
 ·rw [show (_:A_)=_ from Array.ext' (PI h)]
 ·exact jC h
theorem y5:∀ {a b:L_},vsQ a b=true->a=b
|[],[],_=>rfl
|[],_::_,h=>by cases h
|_::_,[],h=>by cases h
|x::a,y::b,h=>by
  have h':cond (vQ x y) (vsQ a b) false=true:=h;cases hx:vQ x y with
 |false=>rw [hx] at h';cases h'
 |true =>
   rw [hx] at h';rw [vQ_eq hx,y5 h']
abbrev Ent:=Nat × L_ × Value
noncomputable def look (f:Nat) (args:L_) (l:List Ent):Option Value :=
 List.rec (motive:=fun _=>Option Value) none (fun x _ ih=>cond (Nat.beq f x.1) (cond (vsQ args x.2.1) (some x.2.2) ih) ih) l
theorem qj {f:Nat} {args:L_} {v:Value}:∀ {l:List Ent},look f args l=some v->(f,args,v) ∈ l
|[],h=>by cases h
|(g,a,u)::l,h=>by
  have h':cond (Nat.beq f g) (cond (vsQ args a) (some u) (look f args l)) (look f args l)=some v:=h;cases h1:Nat.beq f g with
 |false=>rw [h1] at h';exact List.mem_cons_of_mem _ (qj h')
 |true =>
   rw [h1] at h';cases h2:vsQ args a with
  |false=>rw [h2] at h';exact List.mem_cons_of_mem _ (qj h')
  |true =>
    rw [h2] at h';cases h';rw [n_q h1,y5 h2];exact List.mem_cons_self
def Gives (P:Program) (x:Ent):Prop:=(x.2.1.all Nq=true/\Nr x.2.2=true)/\∀ w,Calls P x.1 x.2.1.toArray w (RB w x.2.2)
noncomputable def A8Q (T:List Ent) (S:QG):QG:=fun D f args h=>match look f args T with
|some v=>some (some (v,h))
|none=>S D f args h
theorem A8D {T:List Ent} (hT:∀ x ∈ T,Gives P x) (hS:N8 P S):N8 P (A8Q T S):=by
 intro D hD f args h v h' hx w0 e w args' hv hr;unfold A8Q at hx;split at hx
 ·rename_i u hu;cases hx;obtain ⟨⟨k1,k2⟩,k3⟩:=hT _ (qj hu);rw [l7 k1 hv];exact Ee (k3 w) (A8B k2) hr
 ·exact hS D hD f args h v h' hx w0 e w args' hv hr
theorem A8N {D:AI} (hD:∀ w0,Kt P D w0) {f:FuncId} {v:Value} (hx:D.call f args ⟨.nil,0⟩=some (v,h1)) (ha:args.all Nq=true) (hv:Nr v=true):Gives P (f,args,v):=by
 refine ⟨⟨ha,hv⟩,fun w=>((hD (Base.all w)).call.ok f args ⟨.nil,0⟩ v h1 hx (fun _=>none) w args (l9 ha) (HX.nil (Base.all w))).mono ?_⟩;rintro x w' ⟨u,e1,rfl,_,h3,h4⟩;exact ⟨by rw [A8E hv h3],h4.below.toBelow⟩
end Go.Proofs.YtkpbhdhkdonghaaGreat
