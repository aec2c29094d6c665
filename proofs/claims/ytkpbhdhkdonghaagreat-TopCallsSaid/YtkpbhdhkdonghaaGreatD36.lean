/-
  Part 36 of the proof.
-/
import Derived.Test.YtkpbhdhkdonghaaGreatD24
import Derived.Test.YtkpbhdhkdonghaaGreatD35
set_option linter.all false
namespace Go.Proofs.YtkpbhdhkdonghaaGreat
open Go Tryz Go.RowKit
variable {h h':AH} {w0:Base} {e:En} {args args':L_} {a live n:Nat} {u:Value} {w:World}
noncomputable def fC (c:Nat):N_->Nat
|[]=>0
|x::l=>cond (Nat.beq x c) (Nat.add (fC c l) 1) (fC c l)
noncomputable def iK (v:Value):Option (Nat × Nat):=match v with
|.agg cs=>(match cs.toList with|[.int .i64 (.ofNat a),.int .i64 (.ofNat n)]=>some (a,n)|_=>none)
|_=>none
noncomputable def fQ (h:AH) (v:Value):Option (N_ × Nat):=match v with
|.pointer (some ⟨k,0,none⟩)=>(match h.t.get k with
 |some (.row [.slice (some ⟨kd,0,none⟩) n m,.int .i64 (.ofNat live),.int .i64 (.ofNat _)] 0)=>(match h.t.get kd with
  |some (.row cs 0)=>(match Qe cs with
   |some l=>cond (Nat.beq n l.length && (Nat.beq m l.length && (Nat.ble 1 n && (Nat.ble n 1048576 && Nat.ble live n)))) (some (l,live)) none
   |none=>none)
  |_=>none)
 |_=>none)
|_=>none
noncomputable def A1h (l:N_) (live a n b m d c p:Nat):Option Nat :=
 cond (Nat.ble 1 n && (Nat.ble n 65536 && (Nat.blt n d && (Nat.ble d 65536 && (Nat.ble (Nat.add a n) b && (Nat.ble (Nat.add b m) live && (Nat.ble c 255 && Nat.ble p n)))))))
  (match QE l a p with|some s=>some (fC c s)|none=>none) none
noncomputable def qZ (args:L_) (h:AH):Option (Option (Value × AH)):=match args with
|[x,sa,sb,.int .i64 (.ofNat d),.int .u8 (.ofNat c),.int .i64 (.ofNat p)]=>(match fQ h x,iK sa,iK sb with
 |some (l,live),some (a,n),some (b,m)=>(match A1h l live a n b m d c p with
  |some z=>J7 z fun z=>J7 (Nat.mod p d) fun r=>tell (.tuple [.int .i64 (.ofNat z),.int .i64 (.ofNat r),.bool true].toArray) h
  |none=>none)
 |_,_,_=>none)
|_=>none
theorem RQ {v:Value} (h:iK v=some (a,n)):v=.agg (SP a n):=by
 unfold iK at h;split at h
 ·rename_i cs;split at h
  ·rename_i x y hc;cases h;have:cs=#[.int .i64 (.ofNat a),.int .i64 (.ofNat n)]:=Array.ext' (by rw [hc]);rw [this];rfl
  ·cases h
 ·cases h
theorem ZE (c:Nat):∀ l:N_,((fC c l:Nat):Int)=eqn (ofN l) c
|[]=>rfl
|x::l=>by
  have ih:=ZE c l;simp only [eqn,ofN,List.map_cons,List.countP_cons] at ih ⊢;show ((cond (Nat.beq x c) (fC c l+1) (fC c l):Nat):Int)=_;cases hb:Nat.beq x c with
 |true =>
   have:=n_q hb;subst this;simp at ih ⊢;omega
 |false =>
   have hne:=oG hb;have:¬ ((x:Int)=(c:Int)):=by omega
   simp [this] at ih ⊢;omega
theorem ZN (hr:HX e h w0 w) {v:Value} {l:N_} (hx:fQ h v=some (l,live)) (hv:VR e v u) :
  ∃ (ga gd:Nat) (peak:Int),u=.pointer (some ⟨ga,0,none⟩)/\AA w ga (AR (.slice (some ⟨gd,0,none⟩) (ofN l).length (ofN l).length) live peak)/\AA w gd (B (ofN l))/\(∀ x ∈ l,x<=255)/\1<=l.length/\l.length<=1048576/\live<=l.length:=by
 unfold fQ at hx;split at hx
 ·rename_i k;split at hx
  ·rename_i kd n m lv pk hk;split at hx
   ·rename_i cs hkd;split at hx
    ·rename_i l' hl;cases hc:(Nat.beq n l'.length && (Nat.beq m l'.length && (Nat.ble 1 n && (Nat.ble n 1048576 && Nat.ble lv n)))) with
    |false=>rw [hc] at hx;cases hx
    |true =>
      rw [hc] at hx;cases hx;simp only [b_t] at hc;obtain ⟨c1,c2,c3,c4,c5⟩:=hc;have c1:=n_q c1;have c2:=n_q c2;have c3:=n_l c3;have c4:=n_l c4;have c5:=n_l c5;cases hv with
     |ptr hek =>
      rename_i ga ca;obtain ⟨_,ds,ty,q1,q2,q3,_,q5⟩:=hr.at hek hk;obtain ⟨q6,q7⟩:=q5 rfl;rw [q6,List.drop_zero,List.take_of_length_le (by rw [Array.length_toList];omega)] at q3;generalize hdl:ds.toList=dl at q3;cases q3 with
     |cons r1 r2 =>
      cases r2 with
     |cons r2 r3 =>
      cases r3 with
     |cons r3 r4 =>
      cases r4;cases r2;cases r3;cases r1 with
     |sliceE _ _ _=>omega
     |slice hekd hn hcc =>
      rename_i gd cd;obtain ⟨_,ds2,ty2,s1,s2,s3,_,s5⟩:=hr.at hekd hkd;obtain ⟨s6,s7⟩:=s5 rfl;rw [s6,List.drop_zero,List.take_of_length_le (by rw [Array.length_toList];omega)] at s3;obtain ⟨t1,t2⟩:=JB hl s3;have hHN:HALF=2305843009213693952:=rfl;have hcap:capOf cd.1 m=m:=by unfold capOf;rw [if_pos (by omega)]
      have hlen:(ofN l).length=l.length:=by rw [ofN,List.length_map]
      have hds:ds=AR (.slice (some ⟨gd,0,none⟩) (ofN l).length (ofN l).length) live (pk:Int):=by
       apply Array.ext';rw [hdl,hcap,s6,hlen,<- c1,c2,<- c1];rfl
      have hds2:ds2=B (ofN l):=by
       apply Array.ext';rw [t1];simp [B,vs,ofN]
      refine ⟨ga,gd,pk,by rw [q6],⟨ty,by rw [q1,hds]⟩,⟨ty2,by rw [s1,hds2]⟩,t2,by omega,by omega,by omega⟩
    ·cases hx
   ·cases hx
  ·cases hx
 ·cases hx
theorem qY {v:Value} (hx:qZ args h=some (some (v,h'))) (hv:VRs e args args') (hr:HX e h w0 w) :
  Calls prog 70 args'.toArray w fun x w'=>∃ u e',x=.returned u/\e.le e'/\VR e' v u/\HX e' h' w0 w':=by
 unfold qZ at hx;split at hx
 ·rename_i x sa sb d c p;split at hx
  ·rename_i l live a n b m hA hP hQ;split at hx
   ·rename_i z hz;simp only [JM] at hx;cases hx;obtain rfl:=RQ hP;obtain rfl:=RQ hQ;unfold A1h at hz;cases hc:(Nat.ble 1 n && (Nat.ble n 65536 && (Nat.blt n d && (Nat.ble d 65536 && (Nat.ble (Nat.add a n) b && (Nat.ble (Nat.add b m) live && (Nat.ble c 255 && Nat.ble p n))))))) with
   |false=>rw [hc] at hz;cases hz
   |true =>
     rw [hc] at hz;simp only [cond_true] at hz;simp only [b_t] at hc;obtain ⟨c1,c2,c3,c4,c5,c6,c7,c8⟩:=hc;have c1:=n_l c1;have c2:=n_l c2;have c3:=U3 c3;have c4:=n_l c4;have c5:a+n<=b:=n_l c5;have c6:b+m<=live:=n_l c6;have c7:=n_l c7;have c8:=n_l c8;split at hz
     ·rename_i s hs;cases hz;obtain ⟨e1,e2⟩:=Ef _ _ _ _ hs;cases hv with
     |cons v1 hv =>
      cases hv with
     |cons v2 hv =>
      cases hv with
     |cons v3 hv =>
      cases hv with
     |cons v4 hv =>
      cases hv with
     |cons v5 hv =>
      cases hv with
     |cons v6 hv =>
      cases hv;cases v4;cases v5;cases v6;obtain ⟨ga,gd,peak,rfl,hra,hrd,hby,l1,l2,l3⟩:=ZN hr hA v1;have hspf:∀ x y:Nat,[Value.int .i64 (x:Int),Value.int .i64 (y:Int)].all BM=true:=fun _ _=>rfl;have w2:=Lu (l:=[Value.int .i64 (a:Int),Value.int .i64 (n:Int)]) (hspf a n) v2;have w3:=Lu (l:=[Value.int .i64 (b:Int),Value.int .i64 (m:Int)]) (hspf b m) v3;subst w2 w3;have hlen:(ofN l).length=l.length:=by rw [ofN,List.length_map]
      have hd0:n / d=0:=Nat.div_eq_of_lt c3
      have hby':Bytes (ofN l):=fun y hy=>by
       obtain ⟨k,hk,rfl⟩:=List.mem_map.1 hy;have:=hby k hk;exact ⟨Int.natCast_nonneg _,by show (k:Int) < 256;omega⟩
      have hc:=sN ga gd a n b m d c p (ofN l) live peak w hra hrd ⟨hby',fun j c' _ hj=>by omega⟩ ⟨c1,c2,by omega,c4,c5,by omega,by omega,by omega⟩ (by omega) (by omega) (by omega) c8
      have hcol:(Jp (ofN l) a n).take p=ofN (l.drop a |>.take p):=by
       simp only [Jp,seg,ofN,List.drop_take,<- List.map_drop,<- List.map_take,List.take_take]
       congr 2
       omega
      refine Ee hc ?_ hr;rw [hcol,<- e1,<- ZE];exact .tuple (a':=[.int .i64 ((fC c s:Nat):Int),.int .i64 ((p % d:Nat):Int),.bool true]) (.cons (.int _ _) (.cons (.int _ _) (.cons (.bool _) .nil)))
     ·cases hz
   ·cases hx
  ·cases hx
 ·cases hx
noncomputable def A1L:QG:=fun D f args h=>cond (Nat.beq f 70) (qZ args h) (A1M D f args h)
theorem zD:N8 prog A1L:=by
 intro D hD f args h v h' hx w0 e w args' hv hr;unfold A1L at hx;cases hb:Nat.beq f 70 with
|true =>
  rw [hb] at hx;obtain rfl:=n_q hb;exact qY hx hv hr
|false =>
  rw [hb] at hx;exact zF D hD f args h v h' hx w0 e w args' hv hr
end Go.Proofs.YtkpbhdhkdonghaaGreat
