/-
  Part 37 of the proof.
-/
import Derived.Test.YtkpbhdhkdonghaaGreatA29
import Derived.Test.YtkpbhdhkdonghaaGreatA36
set_option linter.all false
namespace Go.Proofs.YtkpbhdhkdonghaaGreat
open Go Tryz Go.RowKit
variable {h h':AH} {w0:Base} {b:Bool} {e:En} {l:I_} {args args' vals:L_} {c g k n p:Nat} {a:Option Addr} {u:Value} {w w':World}
def x9:I_:=[98,97,110,97,110,97]
def oq:I_:=[87,80,1,6,1,6,3,3,139,103,207,51,240]++(List.replicate 11 0++([5,71,224,5,60]++(List.replicate 17 0++[1,76,79,80,0,3,139,103,207])))
def OA:L_:=vs .u8 x9
def Jc:L_:=vs .u8 oq
theorem Hq (k:IntKind) (l:I_):(vs k l).all BM=true:=by
 rw [l_t];intro v hv;obtain ⟨z,_,rfl⟩:=List.mem_map.1 hv;rfl
theorem A8A:Ij oq=(x9,1,0):=by kernel_rfl
noncomputable def hdIs (n:Int) (x:Except Int (Int × I_)):Bool:=match x with
|.ok (m,_)=>decide (m=n)
|.error _=>false
theorem A8R:hdIs 6 (A7e ⟨0,0,0⟩ oq)=true:=by kernel_rfl
theorem A8S:(Pol.pk 6 6 2).2=0:=by kernel_rfl
theorem A8M:∃ R,A7e ⟨0,0,0⟩ oq=.ok (6,R):=by
 have h:=A8R;unfold hdIs at h;split at h
 ·rename_i m R hm;exact ⟨R,by rw [hm,of_decide_eq_true h]⟩
 ·cases h
theorem A8L:Tgt (6:Nat) oq=(x9,0):=by
 obtain ⟨R,hR⟩:=A8M;rw [A8y hR A8S,A8A]
theorem y7:Bytes oq:=by
 have h:oq.all (fun x=>decide (0<=x/\x < 256))=true:=by kernel_rfl
 intro x hx;exact of_decide_eq_true (List.all_eq_true.1 h x hx)
theorem A32 (hr:HX e h w0 w) (hb:Below w.heap.size w w') {cells:A_} (hge:w.heap.size<=g) (hrow:AA w' g cells) (hv:vals.all BM=true) (hl:vals.length=n) (hc:n<=c) (hsz:p+c<=cells.size)
  (hcells:∀ j,j < vals.length->cells[p+j]?=vals[j]?) (hnew:h.new (.row vals 1)=some (k,h')):∃ e',e.le e'/\VR e' (.slice (some ⟨k,0,none⟩) n NOM) (.slice (some ⟨g,p,none⟩) n c)/\HX e' h' w0 w':=by
 obtain ⟨ty,hrow⟩:=hrow
 have htk:(cells.toList.drop p).take vals.length=vals:=by
  apply List.ext_getElem?;intro j;by_cases hj:j < vals.length
  ·rw [List.getElem?_take,if_pos hj,List.getElem?_drop,a_g];exact hcells j hj
  ·rw [List.getElem?_take,if_neg hj,List.getElem?_eq_none (by omega)]
 obtain ⟨rfl,q1,q2⟩:=hr.add hnew (below_grown hb) hge (g:=g) (c:=(c,p)) ⟨cells,ty,hrow,by simp only;omega,by rw [htk];exact VRs.self hv,fun _=>⟨by simp only;omega,by simp only;omega⟩,fun h=>by cases h⟩;refine ⟨_,q1,?_,q2⟩;have hHN:HALF=2305843009213693952:=rfl;have hNN:NOM=4611686018427387904:=rfl;have hcn:capOf c NOM=c:=by unfold capOf;rw [if_neg (by omega)];omega
 have h3:=VR.slice (e:=e.add h.n g (c,p)) (off:=0) (n:=n) (c:=NOM) En.EG (by simp only [hcn];exact hc) (fun _=>⟨by simp only;omega,Nat.le_refl _⟩);simp only [hcn,Nat.zero_add] at h3;exact h3
theorem y8 (hr:HX e h w0 w) (hn:n ≠ 0) (hl:l.length=n) (hx:JW 1 n h (.slice a n c)=some (vs .u8 l)) (hv:VR e (.slice a n c) u):InC .u8 w u l/\Src w u (vs .u8 l):=by
 obtain ⟨g,off,m,c',us,e1,e2,⟨_,_,e3⟩,e4,e5,e6⟩:=FB hr hx hv (fun _ _ _ h=>by cases h;exact Nat.le_refl _) hn;cases e3;subst e1;rw [TB (Hq .u8 l) e4] at e6
 have hc:n<=c':=by
  cases hv with
 |slice _ hn _=>exact hn
 |sliceE=>omega
 subst hl;have hin:InC .u8 w (.slice (some ⟨g,off,none⟩) l.length c') l:=⟨_,c',rfl,hc,fun i hi=>⟨_,rfl,e6 i _ (Fg .u8 l i hi)⟩⟩;exact ⟨hin,hin.A7y (.inl fun h=>hn (by rw [h];rfl))⟩
noncomputable def A8G (args:L_) (h:AH):Option (Option (Value × AH)):=cond (vsQ args [.int .i64 (.ofNat 6),.int .u8 (.ofNat 1),.int .u8 (.ofNat 2)]) (match h.new (.row [.int .i64 (.ofNat 6)] 1) with
|some (k,h')=>some (some (.tuple [.slice (some ⟨k,0,none⟩) 1 NOM,.int .i64 (.ofNat 0)].toArray,h'))
|none=>none) none
theorem A8F {v:Value} (hx:A8G args h=some (some (v,h'))) (hv:VRs e args args') (hr:HX e h w0 w) :
  Calls prog 94 args'.toArray w fun x w'=>∃ u e',x=.returned u/\e.le e'/\VR e' v u/\HX e' h' w0 w':=by
 unfold A8G at hx;cases hq:vsQ args [.int .i64 (.ofNat 6),.int .u8 (.ofNat 1),.int .u8 (.ofNat 2)] with
|false=>rw [hq] at hx;cases hx
|true =>
  rw [hq] at hx;obtain rfl:=y5 hq;rw [l7 rfl hv];simp only [cond_true] at hx;split at hx
  ·rename_i k h2 hnew;cases hx;refine (Pol.A44 6 1 2 w (by decide) (by decide)).mono ?_;rintro x w' ⟨⟨vx,rfl,h1,h2⟩,hb⟩;rw [show Pol.lay 6 1 2=[6] by kernel_rfl] at h1 h2;rw [show Pol.er 6 1 2=0 by kernel_rfl];rcases h2 with ⟨_,h0⟩|⟨g,cap,cur,rfl,hge,hg,hn,_,hs,ht⟩
   ·cases h0
   ·have hc0:cur[0+0]?=some (.int .i64 6):=by
     have:=congrArg (fun l=>l[0]?) ht;simpa [vs] using this
    obtain ⟨e',q1,q2,q3⟩:=A32 (p:=0) (n:=1) (c:=cap) (vals:=[.int .i64 (.ofNat 6)]) hr hb hge ⟨_,hg⟩ rfl rfl hn (by rw [hs];omega) (fun j hj=>by
     obtain rfl:j=0:=by simp at hj;omega
     exact hc0) hnew
    exact ⟨_,e',rfl,q1,.tuple (a':=[_,_]) (.cons q2 (.cons (.int _ _) .nil)),q3⟩
  ·cases hx
noncomputable def A8K (args:L_) (h:AH):Option (Option (Value × AH)):=match args with
|[.slice a n c,x,y,z]=>cond (cond (Nat.beq n 55) (vsQ [x,y,z] [.int .i64 (.ofNat 6),.int .i64 (.ofNat 1),.int .i64 (.ofNat 6)]) false) (match JW 1 55 h (.slice a 55 c) with
 |some l=>cond (eqQ l Jc) (match h.new (.row OA 1) with
  |some (k,h')=>some (some (.tuple [.slice (some ⟨k,0,none⟩) 6 NOM,.int .u8 (.ofNat 3),.int .i64 (.ofNat 0),.bool true].toArray,h'))
  |none=>none) none
 |none=>none) none
|_=>none
theorem A8P {a:Bool} (h:cond a b false=true):a=true/\b=true:=by cases a<;>simp_all
theorem A8J {v:Value} (hx:A8K args h=some (some (v,h'))) (hv:VRs e args args') (hr:HX e h w0 w) :
  Calls prog 12 args'.toArray w fun x w'=>∃ u e',x=.returned u/\e.le e'/\VR e' v u/\HX e' h' w0 w':=by
 unfold A8K at hx;split at hx
 ·rename_i a n c x y z;cases hq:cond (Nat.beq n 55) (vsQ [x,y,z] [.int .i64 (.ofNat 6),.int .i64 (.ofNat 1),.int .i64 (.ofNat 6)]) false with
 |false=>rw [hq] at hx;cases hx
 |true =>
   rw [hq] at hx;obtain ⟨h1,h2⟩:=A8P hq;obtain rfl:=n_q h1;have h2:=y5 h2;simp only [List.cons.injEq,and_true] at h2;obtain ⟨rfl,rfl,rfl⟩:=h2;simp only [cond_true] at hx;split at hx
   ·rename_i l hel;cases hq2:eqQ l Jc with
   |false=>rw [hq2] at hx;cases hx
   |true =>
     rw [hq2] at hx;simp only [cond_true] at hx;rw [PI hq2] at hel;split at hx
     ·rename_i k h2 hnew;cases hx;cases hv with
     |cons hv1 hv2 =>
      rw [l7 rfl hv2];obtain ⟨b1,b2⟩:=y8 hr (by decide) (by kernel_rfl) hel hv1;obtain ⟨R,hR⟩:=A8M;refine (A8i _ oq 6 1 6 w w (Own.nil w) y7 b1 b2 (by decide) (by decide) (by decide) (by decide) (by decide) (fun n' R' h=>by rw [hR] at h;injection h with h;exact (congrArg Prod.fst h).symm)).mono ?_;rintro x w' ⟨X,vx,rfl,hX,hm⟩;rw [A8L] at hX ⊢;obtain ⟨_,h3⟩:=hX;rcases h3 with ⟨_,h0,_⟩|⟨g,p,cp,cells,rfl,rfl,hn,hsz,hcl⟩
      ·cases h0
      ·obtain ⟨e',q1,q2,q3⟩:=A32 (vals:=OA) hr hm.below (hm.mem.own _ (List.mem_cons_self)) (hm.row 0 rfl) (Hq _ _) rfl hn (by omega) hcl hnew;exact ⟨_,e',rfl,q1,.tuple (a':=[_,_,_,_]) (.cons q2 (.cons (.int _ _) (.cons (.int _ _) (.cons (.bool _) .nil)))),q3⟩
     ·cases hx
   ·cases hx
 ·cases hx
noncomputable def A8I (args:L_) (h:AH):Option (Option (Value × AH)):=match args with
|[.slice a n c,.slice b m d]=>cond (cond (Nat.beq n 55) (Nat.beq m 6) false) (match JW 1 55 h (.slice a 55 c),JW 1 6 h (.slice b 6 d) with
 |some l,some k=>cond (cond (eqQ l Jc) (eqQ k OA) false) (some (some (.bool true,h))) none
 |_,_=>none) none
|_=>none
theorem A8H {v:Value} (hx:A8I args h=some (some (v,h'))) (hv:VRs e args args') (hr:HX e h w0 w) :
  Calls prog 14 args'.toArray w fun x w'=>∃ u e',x=.returned u/\e.le e'/\VR e' v u/\HX e' h' w0 w':=by
 unfold A8I at hx;split at hx
 ·rename_i a n c b m d;cases hq:cond (Nat.beq n 55) (Nat.beq m 6) false with
 |false=>rw [hq] at hx;cases hx
 |true =>
   rw [hq] at hx;obtain ⟨h1,h2⟩:=A8P hq;obtain rfl:=n_q h1;obtain rfl:=n_q h2;simp only [cond_true] at hx;split at hx
   ·rename_i l k hel hel2;cases hq2:cond (eqQ l Jc) (eqQ k OA) false with
   |false=>rw [hq2] at hx;cases hx
   |true =>
     rw [hq2] at hx;cases hx;obtain ⟨h3,h4⟩:=A8P hq2;rw [PI h3] at hel;rw [PI h4] at hel2;cases hv with
    |cons hv1 hv2 =>
     cases hv2 with
    |cons hv2 hv3 =>
     cases hv3;obtain ⟨b1,_⟩:=y8 hr (by decide) (by kernel_rfl) hel hv1;obtain ⟨_,b2⟩:=y8 (l:=x9) hr (by decide) (by kernel_rfl) hel2 hv2;refine Calls.mono (A7H _ _ oq w w [] (Own.nil w) (fun W hW=>b1.below hW.below) y7 (by decide) (fun W X hW=>by rw [A8A];exact b2.below hW.below)) ?_;rintro x w' ⟨rfl,rs',hm⟩;rw [A8A];have hb:Below w.heap.size w w':=hm.below;refine ⟨_,e,rfl,En.le.refl e,.bool _,⟨hr.below.below hb,hr.small,hr.dom,fun k o hk ho=>?_,hr.inj⟩⟩;exact xg4
   ·cases hx
 ·cases hx
noncomputable def A1M:QG:=fun _ f args h=>cond (Nat.beq f 258) (aV args h) (cond (Nat.beq f 94) (A8G args h) (cond (Nat.beq f 12) (A8K args h) (cond (Nat.beq f 14) (A8I args h) none)))
theorem zF:N8 prog A1M:=by
 intro D hD f args h v h' hx w0 e w args' hv hr;unfold A1M at hx;cases h1:Nat.beq f 258 with
|true=>rw [h1] at hx;obtain rfl:=n_q h1;exact kU hx hv hr
|false =>
 rw [h1] at hx;cases h2:Nat.beq f 94 with
|true=>rw [h2] at hx;obtain rfl:=n_q h2;exact A8F hx hv hr
|false =>
 rw [h2] at hx;cases h3:Nat.beq f 12 with
|true=>rw [h3] at hx;obtain rfl:=n_q h3;exact A8J hx hv hr
|false =>
 rw [h3] at hx;cases h4:Nat.beq f 14 with
|true=>rw [h4] at hx;obtain rfl:=n_q h4;exact A8H hx hv hr
|false=>rw [h4] at hx;cases hx
end Go.Proofs.YtkpbhdhkdonghaaGreat
