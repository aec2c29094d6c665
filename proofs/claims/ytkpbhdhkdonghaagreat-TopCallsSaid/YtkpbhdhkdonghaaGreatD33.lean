/-
  Part 33 of the proof.
-/
import Derived.Test.YtkpbhdhkdonghaaGreatD10
import Derived.Test.YtkpbhdhkdonghaaGreatD31
set_option linter.all false
namespace Go.Proofs.YtkpbhdhkdonghaaGreat
open Go Go.RowKit
variable {h h1:AH} {w0:Base} {e:En} {args args':L_} {u:Value} {w:World}
section
variable {P:Program}
theorem Ee {f:FuncId} {v:Value} (hc:Calls P f args.toArray w (RB w u)) (hv:VR e v u) (hr:HX e h w0 w) :
  Calls P f args.toArray w fun x w'=>∃ u e',x=.returned u/\e.le e'/\VR e' v u/\HX e' h w0 w':=by
 refine Calls.mono hc ?_;rintro x w' ⟨rfl,hb⟩;refine ⟨u,e,rfl,En.le.refl e,hv,⟨hr.below.below hb,hr.small,hr.dom,fun k o hk ho=>?_,hr.inj⟩⟩;obtain ⟨g,c,q1,q2,q3⟩:=hr.live k o hk ho;exact ⟨g,c,q1,q2,q3.block (hb.block g q3.lt)⟩
theorem Nl {D:AI} (hD:∀ w0,Kt P D w0) {f:FuncId} {v:Value} (hx:D.call f args ⟨.nil,0⟩=some (v,h1)) (ha:args.all Nq=true) (hv:Nr v=true) (hargs:VRs e args args') (hr:HX e h w0 w) :
  Calls P f args'.toArray w fun x w'=>∃ u e',x=.returned u/\e.le e'/\VR e' v u/\HX e' h w0 w':=by
 refine Calls.mono ((hD (Base.all w)).call.ok f args ⟨.nil,0⟩ v h1 hx (fun _=>none) w args' (Np ha hargs) (HX.nil (Base.all w))) ?_;rintro x w' ⟨u,e1,rfl,_,h3,h4⟩;exact ⟨u,e,rfl,En.le.refl e,Ve hv h3,hr.rest h4⟩
end
open Go Tryz Go.RowKit
noncomputable section
variable {h h':AH} {w0:Base} {e:En} {args args':L_} {a b:Value} {w w':World}
def Qe:L_->Option N_
 |[]=>some []
 |v::l=>match v with
   |.int .u8 (.ofNat n)=>cond (Nat.ble n 255) (match Qe l with|some m=>some (n::m)|none=>none) none
   |_=>none
def u8Q (v:Value):Option Nat :=
  Value.rec (motive_1:=fun _=>Option Nat) (motive_2:=fun _=>Option Nat) (motive_3:=fun _=>Option Nat) (fun _=>none) (fun k n=>cond (Nat.beq (Fe k) 4) (Int.rec (motive:=fun _=>Option Nat) (fun m=>cond (Nat.ble m 255) (some m) none) (fun _=>none) n) none) (fun _ _=>none) (fun _ _ _=>none) (fun _=>none) (fun _=>none) (fun _ _ _=>none) (fun _=>none) (fun _=>none) (fun _ _ _ _ _=>none) none (fun _ _ _=>none) none (fun _ _=>none) (fun _ _=>none) (fun _ _=>none) none (fun _ _ _ _=>none) v
def qL (l:L_):Option N_ :=
  List.rec (motive:=fun _=>Option N_) (some []) (fun v _ ih=>Option.rec (motive:=fun _=>Option N_) none (fun x=>Option.rec (motive:=fun _=>Option N_) none (fun m=>some (x::m)) ih) (u8Q v)) l
def intQ (k:IntKind) (n:Int) (b:Value):Bool :=
  Value.rec (motive_1:=fun _=>Bool) (motive_2:=fun _=>Bool) (motive_3:=fun _=>Bool) (fun _=>false) (fun j m=>cond (Nat.beq (Fe k) (Fe j)) (Int.rec (motive:=fun _=>Bool) (fun x=>Int.rec (motive:=fun _=>Bool) (fun y=>Nat.beq x y) (fun _=>false) m) (fun _=>false) n) false) (fun _ _=>false) (fun _ _ _=>false) (fun _=>false) (fun _=>false) (fun _ _ _=>false) (fun _=>false) (fun _=>false) (fun _ _ _ _ _=>false) false (fun _ _ _=>false) false (fun _ _=>false) (fun _ _=>false) (fun _ _=>false) false (fun _ _ _ _=>false) b
def nN (a b:Value):Bool :=
  Value.rec (motive_1:=fun _=>Bool) (motive_2:=fun _=>Bool) (motive_3:=fun _=>Bool) (fun _=>false) (fun k n=>intQ k n b) (fun _ _=>false) (fun _ _ _=>false) (fun _=>false) (fun _=>false) (fun _ _ _=>false) (fun _=>false) (fun _=>false) (fun _ _ _ _ _=>false) false (fun _ _ _=>false) false (fun _ _=>false) (fun _ _=>false) (fun _ _=>false) false (fun _ _ _ _=>false) a
def eqQ (a b:L_):Bool :=
  List.rec (motive:=fun _=>L_->Bool) (fun l=>List.rec (motive:=fun _=>Bool) true (fun _ _ _=>false) l) (fun x _ ih l=>List.rec (motive:=fun _=>Bool) false (fun y t _=>cond (nN x y) (ih t) false) l) a b
def lZ (c:Nat):N_->Nat->Int
 |[],_=>.negSucc 0
 |x::l,i=>cond (Nat.beq x c) (.ofNat i) (lZ c l (Nat.add i 1))
def aV (args:L_) (h:AH):Option (Option (Value × AH)):=match args with
 |[.slice a n c,.int .u8 (.ofNat x)]=>cond (Nat.ble 1 n && Nat.ble x 255) (match JW 1 n h (.slice a n c) with
   |some vs=>match qL vs with
     |some l=>fint (lZ x l 0) fun z=>some (some (.int .i64 z,h))
     |none=>none
   |none=>none) none
 |_=>none
def aW (args:L_) (h:AH):Option (Option (Value × AH)):=match args with
 |[.slice a 1 c,.int .i64 (.ofNat n)]=>cond (Nat.ble n 65536) (match JW 1 1 h (.slice a 1 c) with
   |some [.int .u8 (.ofNat x)]=>match h.new (.row (List.replicate n (.int .u8 (.ofNat x))) 1) with
     |some (k,h')=>some (some (.slice (some ⟨k,0,none⟩) n n,h'))
     |none=>none
   |_=>none) none
 |_=>none
theorem Ws:∀ l:L_,qL l=Qe l
 |[]=>rfl
 |v::l=>by
    have h0:qL (v::l)=Option.rec (motive:=fun _=>Option N_) none (fun x=>Option.rec (motive:=fun _=>Option N_) none (fun m=>some (x::m)) (qL l)) (u8Q v):=rfl;rw [h0,Ws l];cases v with
   |int k n =>
      cases k<;>first
       |(cases n with
          |ofNat m =>
             show Option.rec (motive:=fun _=>Option N_) none _ (cond (Nat.ble m 255) (some m) none)=cond (Nat.ble m 255) _ none;cases Nat.ble m 255 with
            |false=>rfl
            |true=>cases Qe l<;>rfl
          |negSucc m=>rfl)
       |(cases n<;>rfl)
   |_=>rfl
theorem jC (h:nN a b=true):a=b:=by
  cases a with
 |int k n =>
    cases b with
   |int j m =>
      have h':cond (Nat.beq (Fe k) (Fe j)) (Int.rec (motive:=fun _=>Bool) (fun x=>Int.rec (motive:=fun _=>Bool) (fun y=>Nat.beq x y) (fun _=>false) m) (fun _=>false) n) false=true:=h;cases hk:Nat.beq (Fe k) (Fe j) with
     |false=>rw [hk] at h';cases h'
     |true =>
        rw [hk] at h';have e1:=Io hk;subst e1;cases n with
       |ofNat x =>
          cases m with
         |ofNat y =>
            have h':Nat.beq x y=true:=h';rw [n_q h']
         |negSucc y=>cases h'
       |negSucc x=>cases h'
   |_=>cases h
 |_=>cases h
theorem PI:∀ {a b:L_},eqQ a b=true->a=b
 |[],[],_=>rfl
 |[],_::_,h=>by cases h
 |_::_,[],h=>by cases h
 |x::a,y::b,h=>by
    have h':cond (nN x y) (eqQ a b) false=true:=h;cases hx:nN x y with
   |false=>rw [hx] at h';cases h'
   |true =>
      rw [hx] at h';rw [jC hx,PI h']
theorem A0h {β:Type} (z:Int) (k:Int->β):fint z k=k z:=by
  cases z<;>rfl
theorem Yq:∀ (l:N_) (c i:Nat),lZ c l i=if pos (l.map Int.ofNat) c=-1 then -1 else pos (l.map Int.ofNat) c+i
 |[],c,i=>by simp [lZ,pos]
 |x::l,c,i=>by
    show cond (Nat.beq x c) (.ofNat i) (lZ c l (i+1))=_;cases hb:Nat.beq x c with
   |true =>
      have:=n_q hb;subst this;simp [pos,List.findIdx_cons]
   |false =>
      have hne:¬ x=c:=fun h=>by subst h;rw [Nat.beq_refl] at hb;cases hb
      have hne':(Int.ofNat x == (c:Int))=false:=by
        rw [beq_eq_false_iff_ne];intro h;exact hne (Int.ofNat.inj h)
      simp only [cond_false];rw [Yq l c (i+1)]
      have hp:pos (List.map Int.ofNat (x::l)) c=if pos (l.map Int.ofNat) c=-1 then -1 else pos (l.map Int.ofNat) c+1:=by
        simp only [pos,List.map_cons,List.findIdx_cons,hne',cond_false,List.length_cons];split<;>split<;>first|omega|(split<;>omega)
      rw [hp]
      have hge:pos (l.map Int.ofNat) c=-1\/0<=pos (l.map Int.ofNat) c:=by
        simp only [pos];split<;>omega
      rcases hge with h1|h1
      · rw [if_pos h1,if_pos h1,if_pos rfl]
      · rw [if_neg (by omega),if_neg (by omega),if_neg (by omega)]
        push_cast;omega
theorem JB {e:En}:∀ {l us:L_} {m:N_},Qe l=some m->VRs e l us->us=m.map (fun n=>Value.int .u8 (Int.ofNat n))/\∀ x ∈ m,x<=255
 |[],us,m,h,hv=>by
    cases h;cases hv;exact ⟨rfl,fun x hx=>by cases hx⟩
 |v::l,us,m,h,hv=>by
    unfold Qe at h;split at h
    · rename_i n
      cases hb:Nat.ble n 255 with
     |false=>rw [hb] at h;cases h
     |true =>
        rw [hb] at h;simp only [cond_true] at h;split at h
        · rename_i m' hm
          cases h;cases hv with
         |cons h1 h2 =>
            cases h1;obtain ⟨q1,q2⟩:=JB hm h2;refine ⟨by rw [q1];rfl,fun x hx=>?_⟩;rcases List.mem_cons.1 hx with rfl|hx
            · exact n_l hb
            · exact q2 x hx
        · cases h
    · cases h
theorem kU {v:Value} (hx:aV args h=some (some (v,h'))) (hv:VRs e args args') (hr:HX e h w0 w) :
    Calls prog 258 args'.toArray w fun x w'=>∃ u e',x=.returned u/\e.le e'/\VR e' v u/\HX e' h' w0 w':=by
  unfold aV at hx;split at hx
  · rename_i a n c x
    cases hb:(Nat.ble 1 n && Nat.ble x 255) with
   |false=>rw [hb] at hx;cases hx
   |true =>
      rw [hb] at hx;simp only [cond_true] at hx;rw [b_t] at hb;have hn:=n_l hb.1;have hx255:=n_l hb.2;split at hx
      · rename_i vs0 hel
        split at hx
        · rename_i l hl
          rw [Ws] at hl;rw [A0h] at hx;cases hx;cases hv with
         |cons hv1 hv2 =>
          cases hv2 with
         |cons hv2 hv3 =>
          cases hv3;cases hv2;obtain ⟨g,off,m,c',us,e1,e2,⟨_,_,e3⟩,e4,e5,e6⟩:=FB hr hel hv1 (fun _ _ _ h=>by cases h;exact Nat.le_refl _) (by omega);cases e3;subst e1;obtain ⟨q1,q2⟩:=JB hl e4;have hlen:l.length=n:=by rw [<- Nat.mul_one n,<- e5,q1,List.length_map]
          have hc:=UJ g off n c' (l.map Int.ofNat) (x:Int) w (by simp [hlen]) (fun y hy=>by
            obtain ⟨k,hk,rfl⟩:=List.mem_map.1 hy;have:=q2 k hk
            exact ⟨Int.natCast_nonneg _,by show (k:Int) < 256;omega⟩) ⟨Int.natCast_nonneg _,by omega⟩ (fun i hi=>by
            have:=e6 i (.int .u8 ((l.map Int.ofNat).getD i 0)) (by
              rw [q1,List.getElem?_map];have h1:i < l.length:=by omega
              rw [l_e h1]
              simp [l_e h1])
            rw [Addr.add_lit] at this
            exact this)
          refine hc.mono ?_;rintro ed w' ⟨rfl,rfl⟩;refine ⟨_,e,rfl,En.le.refl e,?_,hr⟩
          have:lZ x l 0=pos (l.map Int.ofNat) x:=by
            rw [Yq];split
            · rename_i h1;rw [h1]
            · simp
          rw [this];exact .int _ _
        · cases hx
      · cases hx
  · cases hx
theorem below_grown (hb:Below w.heap.size w w'):w.grownBy w' none:=⟨hb.os,hb.tape,hb.output,hb.size,fun k hk _=>hb.block k hk⟩
theorem kV {v:Value} (hx:aW args h=some (some (v,h'))) (hv:VRs e args args') (hr:HX e h w0 w) :
    Calls prog 251 args'.toArray w fun x w'=>∃ u e',x=.returned u/\e.le e'/\VR e' v u/\HX e' h' w0 w':=by
  unfold aW at hx;split at hx
  · rename_i a c n
    cases hb:Nat.ble n 65536 with
   |false=>rw [hb] at hx;cases hx
   |true =>
      rw [hb] at hx;simp only [cond_true] at hx;have hn:=n_l hb;split at hx
      · rename_i x hel
        split at hx
        · rename_i k h2 hnew
          cases hx;cases hv with
         |cons hv1 hv2 =>
          cases hv2 with
         |cons hv2 hv3 =>
          cases hv3;cases hv2;obtain ⟨g,off,m,c',us,e1,e2,⟨_,_,e3⟩,e4,e5,e6⟩:=FB hr hel hv1 (fun _ _ _ h=>by cases h;exact Nat.le_refl _) (by omega);cases e3;subst e1;cases e4 with
         |cons e4 e4' =>
          cases e4';cases e4
          have hA:w.cell? ⟨g,off,none⟩=some (.int .u8 (x:Int)):=by
            have:=e6 0 _ rfl;rw [Addr.add_lit] at this;exact this
          refine (Rz (x:Int) _ n w hn ⟨g,off,none⟩ c' rfl hA).mono ?_;rintro ed w' ⟨⟨g2,cells,rfl,⟨ty,hrow⟩,hge,htk⟩,hbel⟩;have hlr:(List.replicate n (x:Int)).length=n:=l_r;rw [hlr] at htk ⊢;have hvs:vs .u8 (List.replicate n (x:Int))=List.replicate n (.int .u8 (x:Int)):=by simp [vs]
          rw [hvs] at htk
          have hcs:n<=cells.size:=by
            have:=congrArg List.length htk;rw [List.length_take,l_r,Array.length_toList] at this;omega
          have hvr:∀ e:En,VRs e (List.replicate n (.int .u8 (x:Int))) (List.replicate n (.int .u8 (x:Int))):=fun e=>VRs.self (by rw [l_t];intro y hy;rw [List.eq_of_mem_replicate hy];rfl)
          obtain ⟨rfl,q1,q2⟩:=hr.add hnew (below_grown hbel) hge (g:=g2) (c:=(n,0)) ⟨cells,ty,hrow,by simpa using hcs,by
            rw [List.drop_zero,l_r,htk]
            exact hvr _,fun _=>⟨by simp,by simpa using hcs⟩,fun h=>by cases h⟩
          refine ⟨_,_,rfl,q1,?_,q2⟩;have hHN:HALF=2305843009213693952:=rfl;have hcap:capOf n n=n:=by unfold capOf;rw [if_pos (by omega)]
          have h3:=VR.slice (e:=e.add h.n g2 (n,0)) (off:=0) (n:=n) (c:=n) En.EG (by simp only [hcap];exact Nat.le_refl _) (fun hh=>absurd hh (by omega));simp only [hcap] at h3;exact h3
        · cases hx
      · cases hx
  · cases hx
end
end Go.Proofs.YtkpbhdhkdonghaaGreat
