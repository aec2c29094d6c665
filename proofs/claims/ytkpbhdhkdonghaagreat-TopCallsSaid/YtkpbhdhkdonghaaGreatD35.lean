/-
  Part 35 of the proof.
-/
import Derived.Test.YtkpbhdhkdonghaaGreatD34
set_option linter.all false
namespace Go.Proofs.YtkpbhdhkdonghaaGreat
open Go Tryz Go.RowKit
noncomputable section
variable {h h':AH} {w0:Base} {e:En} {args args':L_} {a b b' bit d' n n' s s' x:Nat} {w:World}
def Yn:N_->Nat->Nat->Bool
|[],_,_=>true
|x::l,k,s=>Nat.ble x 15 && (cond (Nat.ble s k) (Nat.beq x 0) true && Yn l (Nat.add k 1) s)
def cO (l:N_):Nat->Nat->Bool :=
 List.rec (motive:=fun _=>Nat->Nat->Bool) (fun _ _=>true) (fun x _ ih k s=>cond (Nat.ble x 15) (cond (cond (Nat.ble s k) (Nat.beq x 0) true) (J7 (Nat.add k 1) fun k=>ih k s) false) false) l
theorem Vk:∀ (l:N_) (k s:Nat),cO l k s=Yn l k s
|[],_,_=>rfl
|x::l,k,s=>by
  show cond (Nat.ble x 15) (cond (cond (Nat.ble s k) (Nat.beq x 0) true) (cO l (Nat.add k 1) s) false) false=(Nat.ble x 15 && (cond (Nat.ble s k) (Nat.beq x 0) true && Yn l (Nat.add k 1) s));rw [Vk l];cases Nat.ble x 15<;>cases cond (Nat.ble s k) (Nat.beq x 0) true<;>rfl
def qO (was now way:Nat):Bool:=match way with
|0=>Nat.beq was now
|1=>Nat.blt was now
|_=>Nat.blt now was
def okN (l:N_) (s b n d:Nat):Bool :=
 Vu 258 l && (Nat.blt s 258 && (Nat.ble b 5 && (Nat.ble n 15 && (Nat.ble d 2 && (cO l 0 s && (cond (Nat.blt b 4) (Nat.beq s 0 && (Nat.beq d 0 && Nat.blt n (Nat.pow 2 b))) true &&
  (match s with
  |0=>(match d with|1=>Nat.blt 0 n|2=>Nat.blt n 15|_=>true)
  |s+1=>(match lat l s with|some x=>qO x n d|none=>false))))))))
def uw (l:N_) (s b n d bit:Nat):Option (N_ × Nat × Nat × Nat × Nat) :=
 cond (Nat.blt b 4) (some (l,s,Nat.add b 1,Nat.add (Nat.mul 2 n) bit,d))
  (cond (Nat.beq b 4) (cond (Nat.beq bit 0) (cond (Nat.blt (Nat.add s 1) 258) (match KJ l s [n] with|some m=>some (m,Nat.add s 1,b,n,0)|none=>none) none) (some (l,s,5,n,d)))
   (cond (Nat.beq bit 0) (cond (not (Nat.beq d 2) && Nat.blt n 15) (some (l,s,4,Nat.add n 1,1)) none) (cond (not (Nat.beq d 1) && Nat.blt 0 n) (some (l,s,4,Nat.sub n 1,2)) none)))
def rowT (l:N_) (s b n d:Nat):L_:=l.map (fun x=>Value.int .u8 (.ofNat x))++[.int .i64 (.ofNat s),.int .i64 (.ofNat b),.int .i64 (.ofNat n),.int .i64 (.ofNat d)]
def aY (args:L_) (h:AH):Option (Option (Value × AH)):=match args with
|[.agg cs,.int .i64 (.ofNat bit)]=>match ltk 258 cs.toList,QE cs.toList 258 4 with
 |some ls,some [.int .i64 (.ofNat s),.int .i64 (.ofNat b),.int .i64 (.ofNat n),.int .i64 (.ofNat d)]=>match qL ls with
  |some l=>cond (Vu 262 cs.toList && (Nat.ble bit 1 && okN l s b n d)) (match uw l s b n d bit with
   |some (l',s',b',n',d')=>tell (.tuple [.agg (rowT l' s' b' n' d').toArray,.bool false,.int .i64 0].toArray) h
   |none=>none) none
  |none=>none
 |_,_=>none
|_=>none
theorem U3 (h:Nat.blt a b=true):a < b:=n_l h
theorem bltF (h:Nat.blt a b=false):b<=a:=by
 rcases Nat.lt_or_ge a b with h1|h1
 ·have:Nat.blt a b=true:=Nat.ble_eq_true_of_le h1;rw [this] at h;cases h
 ·exact h1
theorem oG (h:Nat.beq a b=false):a ≠ b:=fun e=>by subst e;rw [Nat.beq_refl] at h;cases h
theorem Vj:∀ (l:N_) (k s:Nat),Yn l k s=true->∀ i x,l[i]?=some x->x<=15/\(s<=k+i->x=0)
|[],k,s,h,i,x,hx=>by simp at hx
|y::l,k,s,h,i,x,hx=>by
  unfold Yn at h;simp only [b_t] at h;obtain ⟨h1,h2,h3⟩:=h;cases i with
 |zero =>
   simp only [List.getElem?_cons_zero,Option.some.injEq] at hx;subst hx;refine ⟨n_l h1,fun hs=>?_⟩;rw [Nat.ble_eq_true_of_le (show s<=k by omega)] at h2;exact n_q h2
 |succ i =>
   have:=Vj l (Nat.add k 1) s h3 i x (by simpa using hx);exact ⟨this.1,fun hs=>this.2 (by show s<=k+1+i;omega)⟩
def ofN (l:N_):I_:=l.map Int.ofNat
theorem wz (l:N_) (k:Nat):gi (ofN l) k=((l[k]?.getD 0:Nat):Int):=by
 rw [gi,ofN,List.getD_eq_getElem?_getD,List.getElem?_map];cases l[k]?<;>rfl
theorem qN {d:Nat} (h:qO x n d=true):turn x n d=true:=by
 unfold qO at h;unfold turn;split at h
 ·have:=n_q h;subst this;simp
 ·have:=U3 h;simp;omega
 ·rename_i h0 h1;have h0:d ≠ 0:=h0;have h1:d ≠ 1:=h1;rw [if_neg (by omega),if_neg (by omega)];have:=U3 h;simpa using this
theorem A25 {l:N_} {d:Nat} (h:okN l s b n d=true):(⟨ofN l,s,b,n,d⟩:TT).ok:=by
 unfold okN at h;simp only [b_t] at h;obtain ⟨h1,h2,h3,h4,h5,h6,h7,h8⟩:=h;have h1:=JI _ _ h1;rw [Vk] at h6;have h2:=U3 h2;have h3:=n_l h3;have h4:=n_l h4;have h5:=n_l h5;have hrow:=Vj l 0 s h6;have hlen:(ofN l).length=258:=by rw [ofN,List.length_map,h1]
 have hknown:Known (ofN l) s:=by
  intro k hk;rw [wz,l_e (by omega)];have:=hrow k _ (l_e (show k < l.length by omega));simp only [Option.getD_some];refine ⟨by omega,by omega,fun hs=>?_⟩;have:=this.2 (by omega);omega
 refine ⟨hlen,by simp only;omega,by simp only;omega,by simp only;omega,by simp only;omega,hknown,fun hb=>?_,fun hs hd=>?_,fun hs hd=>?_,fun hs=>?_⟩
 ·simp only at hb ⊢;have hb4:Nat.blt b 4=true:=Nat.ble_eq_true_of_le (show b+1<=4 by omega);rw [hb4] at h7;simp only [cond_true,b_t] at h7;have e1:=n_q h7.1;have e2:=n_q h7.2.1;have e3:=U3 h7.2.2;subst e1 e2;refine ⟨rfl,rfl,?_,?_⟩
  ·apply List.ext_getElem?;intro i;by_cases hi:i < 258
   ·have hq:=hrow i _ (l_e (show i < l.length by omega));rw [ofN,List.getElem?_map,l_e (by omega)];rw [hq.2 (by omega),Hf,List.getElem?_replicate,if_pos hi];rfl
   ·rw [List.getElem?_eq_none (by omega),List.getElem?_eq_none (by rw [Az];omega)]
  ·have:((2 ^ b:Nat):Int)=2 ^ b:=by push_cast;rfl
   rw [Int.toNat_natCast,<- this]
   exact_mod_cast e3
 ·simp only at hs hd ⊢;obtain rfl:s=0:=by omega
  obtain rfl:d=1:=by omega
  have:=U3 h8;omega
 ·simp only at hs hd ⊢;obtain rfl:s=0:=by omega
  obtain rfl:d=2:=by omega
  have:=U3 h8;omega
 ·simp only at hs ⊢;cases s with
 |zero=>omega
 |succ s =>
   simp only [DL] at h8;split at h8
   ·rename_i x hx;rw [show ((s+1:Nat):Int).toNat - 1=s by omega,wz,hx];exact qN h8
   ·cases h8
theorem uq {l:N_} {d:Nat} {l':N_} (hb:bit<=1) (hs:s < 258) (hl:l.length=258) (hb5:b<=5) (h:uw l s b n d bit=some (l',s',b',n',d')) :
  TT.next ⟨ofN l,s,b,n,d⟩ bit=(⟨ofN l',s',b',n',d'⟩,true)/\s' < 258:=by
 unfold uw at h;unfold TT.next;simp only;cases h4:Nat.blt b 4 with
|true =>
  rw [h4] at h;simp only [cond_true,Option.some.injEq,Prod.mk.injEq] at h;obtain ⟨rfl,rfl,rfl,rfl,rfl⟩:=h;have:=U3 h4;rw [if_pos (by omega)];refine ⟨?_,hs⟩
  congr 2
|false =>
  rw [h4] at h;simp only [cond_false] at h;have h4':=bltF h4;rw [if_neg (by omega)];cases h44:Nat.beq b 4 with
 |true =>
   rw [h44] at h;simp only [cond_true] at h;have:=n_q h44;subst this;rw [if_pos (by rfl)];cases hbit:Nat.beq bit 0 with
  |true =>
    rw [hbit] at h;simp only [cond_true] at h;have:=n_q hbit;subst this;rw [if_pos (by rfl)];cases hs1:Nat.blt (Nat.add s 1) 258 with
   |false=>rw [hs1] at h;cases h
   |true =>
     rw [hs1] at h;simp only [cond_true] at h;have hs2:s+1 < 258:=U3 hs1;split at h
     ·rename_i m hm;simp only [Option.some.injEq,Prod.mk.injEq] at h;obtain ⟨rfl,rfl,rfl,rfl,rfl⟩:=h;obtain ⟨q1,q2⟩:=I7 _ _ _ _ hm
      have hset:(ofN l).set s n=ofN m:=by
       rw [q1,List.set_eq_take_append_cons_drop,if_pos (by rw [ofN,List.length_map];omega)];simp [ofN,List.map_take,List.map_drop]
      have e1:((s:Nat):Int).toNat=s:=by omega
      rw [e1,hset];have e2:decide ((s:Int)+1 < 258)=true:=d_t;rw [e2];exact ⟨rfl,hs2⟩
     ·cases h
  |false =>
    rw [hbit] at h;simp only [cond_false,Option.some.injEq,Prod.mk.injEq] at h;obtain ⟨rfl,rfl,rfl,rfl,rfl⟩:=h;have:=oG hbit;rw [if_neg (by omega)];exact ⟨rfl,hs⟩
 |false =>
   rw [h44] at h;simp only [cond_false] at h;have h44':=oG h44;rw [if_neg (by omega)];cases hbit:Nat.beq bit 0 with
  |true =>
    rw [hbit] at h;simp only [cond_true] at h;have:=n_q hbit;subst this;rw [if_pos (by rfl)];cases hc:(not (Nat.beq d 2) && Nat.blt n 15) with
   |false=>rw [hc] at h;cases h
   |true =>
     rw [hc] at h;simp only [cond_true,Option.some.injEq,Prod.mk.injEq] at h;obtain ⟨rfl,rfl,rfl,rfl,rfl⟩:=h;simp only [b_t,Bool.not_eq_true'] at hc;have q1:=oG hc.1;have q2:=U3 hc.2;have e2:decide ((d:Int) ≠ 2/\(n:Int) < 15)=true:=d_t;rw [e2];exact ⟨rfl,hs⟩
  |false =>
    rw [hbit] at h;simp only [cond_false] at h;have:=oG hbit;rw [if_neg (by omega)];cases hc:(not (Nat.beq d 1) && Nat.blt 0 n) with
   |false=>rw [hc] at h;cases h
   |true =>
     rw [hc] at h;simp only [cond_true,Option.some.injEq,Prod.mk.injEq] at h;obtain ⟨rfl,rfl,rfl,rfl,rfl⟩:=h;simp only [b_t,Bool.not_eq_true'] at hc;have q1:=oG hc.1;have q2:=U3 hc.2;have e2:decide ((d:Int) ≠ 1/\0 < (n:Int))=true:=d_t;rw [e2];refine ⟨?_,hs⟩
     congr 2
     show (n:Int) - 1=((n - 1:Nat):Int);omega
theorem WQ (l:N_) (s b n d:Nat):(rowT l s b n d).toArray=TT.v ⟨ofN l,s,b,n,d⟩:=by
 simp only [rowT,TT.v,TS,vs,ofN,List.map_map];rfl
theorem kX {v:Value} (hx:aY args h=some (some (v,h'))) (hv:VRs e args args') (hr:HX e h w0 w) :
  Calls prog 126 args'.toArray w fun x w'=>∃ u e',x=.returned u/\e.le e'/\VR e' v u/\HX e' h' w0 w':=by
 unfold aY at hx;split at hx
 ·rename_i cs bit;split at hx
  ·rename_i ls s b n d hls hrest;split at hx
   ·rename_i l hl;rw [Ws] at hl;cases hc:(Vu 262 cs.toList && (Nat.ble bit 1 && okN l s b n d)) with
   |false=>rw [hc] at hx;cases hx
   |true =>
     rw [hc] at hx;simp only [cond_true] at hx;simp only [b_t] at hc;obtain ⟨c1,c2,c3⟩:=hc;have c1:=JI _ _ c1;have c2:=n_l c2;have hok:=A25 c3;split at hx
     ·rename_i l' s' b' n' d' hn;cases hx;obtain ⟨e1,e2⟩:=SV _ _ _ hls;obtain ⟨e3,e4⟩:=Ef _ _ _ _ hrest
      obtain ⟨q1,q2⟩:=JB (e:=e) hl (VRs.self (by
       rw [e1,l_t];intro y hy
       have hm:ls.all BM=true:=by
        have:∀ {l:L_} {m:N_},Qe l=some m->l.all BM=true:=by
         intro l
         induction l with
        |nil=>intro m _;rfl
        |cons y l ih =>
          intro m hm;unfold Qe at hm;split at hm
          ·rename_i k;cases hb:Nat.ble k 255 with
          |false=>rw [hb] at hm;cases hm
          |true =>
            rw [hb] at hm;simp only [cond_true] at hm;split at hm
            ·rename_i m' hm';rw [List.all_cons,ih hm'];rfl
            ·cases hm
          ·cases hm
        exact this hl
       rw [<- e1] at hy
       exact List.all_eq_true.1 hm y hy))
      have hcs:cs.toList=rowT l s b n d:=by
       have h1:cs.toList=cs.toList.take 258++cs.toList.drop 258:=(List.take_append_drop _ _).symm;have h2:cs.toList.drop 258=(cs.toList.drop 258).take 4:=by rw [List.take_of_length_le];rw [List.length_drop];omega
       rw [h1,h2,<- e1,<- e3,q1];rfl
      have hcsa:cs=TT.v ⟨ofN l,s,b,n,d⟩:=by rw [<- WQ,<- hcs]
      have hflat:(rowT l s b n d).all BM=true:=by
       rw [l_t];intro y hy;unfold rowT at hy;simp only [List.mem_append,List.mem_map,List.mem_cons,List.not_mem_nil,or_false] at hy;rcases hy with ⟨k,_,rfl⟩|rfl|rfl|rfl|rfl<;>rfl
      cases hv with
     |cons hv1 hv2 =>
      cases hv2 with
     |cons hv2 hv3 =>
      cases hv3;cases hv2;rw [hcsa,<- WQ] at hv1;rw [Lu hflat hv1,WQ];obtain ⟨n1,n2⟩:=uq c2 (by have:=hok.sym;simp only at this;omega) (by have:=hok.len;rw [ofN,List.length_map] at this;exact this) (by have:=hok.bit;simp only at this;omega) hn;have hc:=SK _ (bit:Int) hok (by omega) (by omega) w;rw [n1] at hc;simp only [if_true] at hc;refine Ee hc ?_ hr
      have hs:((s':Int) == 258)=false:=by
       rw [beq_eq_false_iff_ne];omega
      rw [hs,<- WQ];refine .tuple (a':=[.agg (rowT l' s' b' n' d').toArray,.bool false,.int .i64 0]) (.cons (Gm ?_) (.cons (.bool _) (.cons (.int _ _) .nil)));rw [l_t];intro y hy;unfold rowT at hy;simp only [List.mem_append,List.mem_map,List.mem_cons,List.not_mem_nil,or_false] at hy;rcases hy with ⟨k,_,rfl⟩|rfl|rfl|rfl|rfl<;>rfl
     ·cases hx
   ·cases hx
  ·cases hx
 ·cases hx
def A1M:QG:=fun _ f args h=>match Nat.beq f 126,Nat.beq f 258,Nat.beq f 251 with
|true,_,_=>aY args h
|_,true,_=>aV args h
|_,_,true=>aW args h
|_,_,_=>sumW f args h
theorem zF:N8 prog A1M:=by
 intro D hD f args h v h' hx w0 e w args' hv hr;unfold A1M at hx;split at hx
 ·rename_i h1;obtain rfl:=n_q h1;exact kX hx hv hr
 ·rename_i h1 _;obtain rfl:=n_q h1;exact kU hx hv hr
 ·rename_i h1 _ _;obtain rfl:=n_q h1;exact kV hx hv hr
 ·exact zA hx hv hr
end
end Go.Proofs.YtkpbhdhkdonghaaGreat
