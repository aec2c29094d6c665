/-
  Part 21 of the proof.
-/
import Derived.Lib.Hide
import Derived.Test.YtkpbhdhkdonghaaGreatA12
set_option linter.all false
set_option maxHeartbeats 1000000
set_option maxRecDepth 100000
namespace Go.Proofs.YtkpbhdhkdonghaaGreat.Pol
open Go Tryz Go.RowKit
variable {a:Act} {m s:Int} {l:I_} {base f r:Nat} {o:Oper} {x y:Operand} {w:World}
def A3i (n s m:Int):Prop:=1<=n/\n<=65536/\(s=1\/s=2)/\(m=1\/m=2\/m=3)
instance (n s m:Int):Decidable (A3i n s m):=by unfold A3i;infer_instance
def rowsOf (n:Int):Int:=if 1024 < n+1 then 1024 else n+1
def A74 (n m:Int):I_:=if m=3 then [n,n,4 * rowsOf n] else [n]
def A5Q (n m:Int):I_:=if m=1 then [n,1024 * (n / 8192)] else if m=2 then [n,1024 * (n / 1024)] else [n,4 * (n+1)]
def lay (n s m:Int):I_:=if A3i n s m then (if s=1 then A74 n m else A5Q n m) else []
def er (n s m:Int):Int:=if A3i n s m then 0 else 2
def A34 (w:World) (l:I_) (x:Ending) (w':World):Prop:=(∃ v,x=.returned v/\w'.ownsRow w.heap.size 3 1 v l.length (vs .i64 l))/\Below w.heap.size w w'
def A38 (w:World) (l:I_) (e:Int) (x:Ending) (w':World):Prop:=(∃ v,x=.returned (.tuple #[v,.int .i64 e])/\w'.ownsRow w.heap.size 3 1 v l.length (vs .i64 l))/\Below w.heap.size w w'
theorem A36 {v:Value} (h:w.ownsRow base 3 1 v (vs .i64 l).length (vs .i64 l)):w.ownsRow base 3 1 v l.length (vs .i64 l):=by rw [Ai] at h;exact h
theorem A3o {v:Value} (h:w.ownsRow base 3 1 v l.length (vs .i64 l)):w.ownsRow base 3 1 v (vs .i64 l).length (vs .i64 l):=by rw [Ai];exact h
theorem A3a (ho:o.op=.lookup 204 x y true) (hx:a.eval x=.map (some r)) (hy:a.eval y=key s m) (h:Holds w r []) (hs:(Lit.int .u8 s).wf=true) (hm:(Lit.int .u8 m).wf=true) (hp:plan s m=some f) :
  (execOp a.eval o).run prog w=.ok (.value (.tuple #[.func (.func f) #[] #[],.bool true])) w:=by
 have H:=A4D h hs hm;rw [hp] at H;unfold execOp;simp only [ho,hx,hy,s_b,H,found,V,r_o,s_p]
theorem A5f (ho:o.op=.lookup 204 x y true) (hx:a.eval x=.map (some r)) (hy:a.eval y=key s m) (h:Holds w r []) (hs:(Lit.int .u8 s).wf=true) (hm:(Lit.int .u8 m).wf=true) (hp:plan s m=none) :
  (execOp a.eval o).run prog w=.ok (.value (.tuple #[.nilFunc,.bool false])) w:=by
 have H:=A4D h hs hm;rw [hp] at H;unfold execOp;simp only [ho,hx,hy,s_b,H,found,r_o,s_p]
theorem A5x (n:Int) (w:World):Calls prog 176 #[.int .i64 n] w (A34 w [n]):=by
 go_enter func176,ntmps176;have hm:=Own.nil w
 go_wp2_with (first
 |(refine A4f hm rfl rfl rfl ?_;intro w1 g1 hm1;clear hm))
 exact xf2
theorem A79 (n:Int) (w:World) (h1:1<=n) (h2:n<=65536) (h3:¬ 1024 < n+1):Calls prog 177 #[.int .i64 n] w (A34 w [n,n,4 * (n+1)]):=xcr
theorem A7a (n:Int) (w:World) (h1:1<=n) (h2:n<=65536) (h3:1024 < n+1):Calls prog 177 #[.int .i64 n] w (A34 w [n,n,4 * 1024]):=xcr
theorem A6W (n:Int) (w:World) (h1:1<=n) (h2:n<=65536):Calls prog 177 #[.int .i64 n] w (A34 w [n,n,4 * rowsOf n]):=by
 unfold rowsOf;split
 ·exact A7a n w h1 h2 (by assumption)
 ·exact A79 n w h1 h2 (by assumption)
theorem A6V (n:Int) (w:World) (h1:1<=n) (h2:n<=65536):Calls prog 178 #[.int .i64 n] w (A34 w [n,1024 * (n / 8192)]):=by
 go_enter func178,ntmps178;exact xb8
theorem A6U (n:Int) (w:World) (h1:1<=n) (h2:n<=65536):Calls prog 179 #[.int .i64 n] w (A34 w [n,1024 * (n / 1024)]):=by
 go_enter func179,ntmps179;exact xb8
theorem A6T (n:Int) (w:World) (h1:1<=n) (h2:n<=65536):Calls prog 180 #[.int .i64 n] w (A34 w [n,4 * (n+1)]):=by
 go_enter func180,ntmps180;exact xb8
theorem A3M (n s m:Int) (w:World) (hs:(Lit.int .u8 s).wf=true) (hm:(Lit.int .u8 m).wf=true) (h1:1<=n) (h2:n<=65536) (hp:plan s m=some 176) (hc:∀ w,Calls prog 176 #[.int .i64 n] w (A34 w l)) :
  Calls prog 94 #[.int .i64 n,.int .u8 s,.int .u8 m] w (A38 w l 0):=by
 have HP:=h_ hp;have HC:=h_ hc;have HS:=h_ hs;have HM:=h_ hm;clear hp hc hs hm;have b1:¬ n < 1:=by omega
 have b2:¬ 65536 < n:=by omega
 go_enter func94,ntmps94;have hm:=Own.nil w
 go_wp2_with (first
 |(go_at_call 135;refine (A7o _).mono ?_;rintro e w1 ⟨⟨r,rfl,hH⟩,hb1⟩;have hm1:=hm.call hb1;clear hm)
 |(refine A8 rfl (A3a rfl rfl rfl hH HS.out HM.out HP.out) ?_)
 |(go_at_call 176;refine (HC.out _).mono ?_;rintro e w2 ⟨⟨v,rfl,ho⟩,hb2⟩;have hm2:=hm1.fG hb2 (A3o ho);clear hm1))
 go_ret2
 exact xcs
theorem A4J (n s m:Int) (w:World) (hs:(Lit.int .u8 s).wf=true) (hm:(Lit.int .u8 m).wf=true) (h1:1<=n) (h2:n<=65536) (hp:plan s m=some 177) (hc:∀ w,Calls prog 177 #[.int .i64 n] w (A34 w l)) :
  Calls prog 94 #[.int .i64 n,.int .u8 s,.int .u8 m] w (A38 w l 0):=by
 have HP:=h_ hp;have HC:=h_ hc;have HS:=h_ hs;have HM:=h_ hm;clear hp hc hs hm;have b1:¬ n < 1:=by omega
 have b2:¬ 65536 < n:=by omega
 go_enter func94,ntmps94;have hm:=Own.nil w
 go_wp2_with (first
 |(go_at_call 135;refine (A7o _).mono ?_;rintro e w1 ⟨⟨r,rfl,hH⟩,hb1⟩;have hm1:=hm.call hb1;clear hm)
 |(refine A8 rfl (A3a rfl rfl rfl hH HS.out HM.out HP.out) ?_)
 |(go_at_call 177;refine (HC.out _).mono ?_;rintro e w2 ⟨⟨v,rfl,ho⟩,hb2⟩;have hm2:=hm1.fG hb2 (A3o ho);clear hm1))
 go_ret2
 exact xcs
theorem A4I (n s m:Int) (w:World) (hs:(Lit.int .u8 s).wf=true) (hm:(Lit.int .u8 m).wf=true) (h1:1<=n) (h2:n<=65536) (hp:plan s m=some 178) (hc:∀ w,Calls prog 178 #[.int .i64 n] w (A34 w l)) :
  Calls prog 94 #[.int .i64 n,.int .u8 s,.int .u8 m] w (A38 w l 0):=by
 have HP:=h_ hp;have HC:=h_ hc;have HS:=h_ hs;have HM:=h_ hm;clear hp hc hs hm;have b1:¬ n < 1:=by omega
 have b2:¬ 65536 < n:=by omega
 go_enter func94,ntmps94;have hm:=Own.nil w
 go_wp2_with (first
 |(go_at_call 135;refine (A7o _).mono ?_;rintro e w1 ⟨⟨r,rfl,hH⟩,hb1⟩;have hm1:=hm.call hb1;clear hm)
 |(refine A8 rfl (A3a rfl rfl rfl hH HS.out HM.out HP.out) ?_)
 |(go_at_call 178;refine (HC.out _).mono ?_;rintro e w2 ⟨⟨v,rfl,ho⟩,hb2⟩;have hm2:=hm1.fG hb2 (A3o ho);clear hm1))
 go_ret2
 exact xcs
theorem A4H (n s m:Int) (w:World) (hs:(Lit.int .u8 s).wf=true) (hm:(Lit.int .u8 m).wf=true) (h1:1<=n) (h2:n<=65536) (hp:plan s m=some 179) (hc:∀ w,Calls prog 179 #[.int .i64 n] w (A34 w l)) :
  Calls prog 94 #[.int .i64 n,.int .u8 s,.int .u8 m] w (A38 w l 0):=by
 have HP:=h_ hp;have HC:=h_ hc;have HS:=h_ hs;have HM:=h_ hm;clear hp hc hs hm;have b1:¬ n < 1:=by omega
 have b2:¬ 65536 < n:=by omega
 go_enter func94,ntmps94;have hm:=Own.nil w
 go_wp2_with (first
 |(go_at_call 135;refine (A7o _).mono ?_;rintro e w1 ⟨⟨r,rfl,hH⟩,hb1⟩;have hm1:=hm.call hb1;clear hm)
 |(refine A8 rfl (A3a rfl rfl rfl hH HS.out HM.out HP.out) ?_)
 |(go_at_call 179;refine (HC.out _).mono ?_;rintro e w2 ⟨⟨v,rfl,ho⟩,hb2⟩;have hm2:=hm1.fG hb2 (A3o ho);clear hm1))
 go_ret2
 exact xcs
theorem A4G (n s m:Int) (w:World) (hs:(Lit.int .u8 s).wf=true) (hm:(Lit.int .u8 m).wf=true) (h1:1<=n) (h2:n<=65536) (hp:plan s m=some 180) (hc:∀ w,Calls prog 180 #[.int .i64 n] w (A34 w l)) :
  Calls prog 94 #[.int .i64 n,.int .u8 s,.int .u8 m] w (A38 w l 0):=by
 have HP:=h_ hp;have HC:=h_ hc;have HS:=h_ hs;have HM:=h_ hm;clear hp hc hs hm;have b1:¬ n < 1:=by omega
 have b2:¬ 65536 < n:=by omega
 go_enter func94,ntmps94;have hm:=Own.nil w
 go_wp2_with (first
 |(go_at_call 135;refine (A7o _).mono ?_;rintro e w1 ⟨⟨r,rfl,hH⟩,hb1⟩;have hm1:=hm.call hb1;clear hm)
 |(refine A8 rfl (A3a rfl rfl rfl hH HS.out HM.out HP.out) ?_)
 |(go_at_call 180;refine (HC.out _).mono ?_;rintro e w2 ⟨⟨v,rfl,ho⟩,hb2⟩;have hm2:=hm1.fG hb2 (A3o ho);clear hm1))
 go_ret2
 exact xcs
theorem A5e (n s m:Int) (w:World) (hs:(Lit.int .u8 s).wf=true) (hm:(Lit.int .u8 m).wf=true) (hn:¬ (1<=n/\n<=65536)) (hp:plan s m=some f) :
  Calls prog 94 #[.int .i64 n,.int .u8 s,.int .u8 m] w (A38 w [] 2):=by
 have HP:=h_ hp;have HS:=h_ hs;have HM:=h_ hm;clear hp hs hm;by_cases b1:n < 1
 ·exact xb9
 ·have b2:65536 < n:=by omega
  exact xb9
theorem A5P (n s m:Int) (w:World) (hs:(Lit.int .u8 s).wf=true) (hm:(Lit.int .u8 m).wf=true) (hp:plan s m=none) :
  Calls prog 94 #[.int .i64 n,.int .u8 s,.int .u8 m] w (A38 w [] 2):=by
 have HP:=h_ hp;have HS:=h_ hs;have HM:=h_ hm;clear hp hs hm;go_enter func94,ntmps94;have hm:=Own.nil w
 go_wp2_with (first
 |(go_at_call 135;refine (A7o _).mono ?_;rintro e w1 ⟨⟨r,rfl,hH⟩,hb1⟩;have hm1:=hm.call hb1;clear hm)
 |(refine A8 rfl (A5f rfl rfl rfl hH HS.out HM.out HP.out) ?_))
 go_ret2
 exact xgp
theorem A5r (s m:Int):(∃ f,plan s m=some f) ↔ (s=1\/s=2)/\(m=1\/m=2\/m=3):=by
 unfold plan
 constructor
 ·rintro ⟨f,h⟩
  repeat' split at h
  all_goals first|(cases h;done)|omega
 ·intro h
  repeat' split
  all_goals first|exact ⟨_,rfl⟩|omega
theorem A44 (n s m:Int) (w:World) (hs:(Lit.int .u8 s).wf=true) (hm:(Lit.int .u8 m).wf=true):Calls prog 94 #[.int .i64 n,.int .u8 s,.int .u8 m] w (A38 w (lay n s m) (er n s m)):=by
 by_cases hk:(s=1\/s=2)/\(m=1\/m=2\/m=3)
 ·by_cases hn:1<=n/\n<=65536
  ·have ha:A3i n s m:=⟨hn.1,hn.2,hk.1,hk.2⟩;rw [lay,er,if_pos ha,if_pos ha];rcases hk with ⟨rfl|rfl,rfl|rfl|rfl⟩
   ·exact A3M n 1 1 w hs hm hn.1 hn.2 rfl (fun w=>A5x n w)
   ·exact A3M n 1 2 w hs hm hn.1 hn.2 rfl (fun w=>A5x n w)
   ·exact A4J n 1 3 w hs hm hn.1 hn.2 rfl (fun w=>A6W n w hn.1 hn.2)
   ·exact A4I n 2 1 w hs hm hn.1 hn.2 rfl (fun w=>A6V n w hn.1 hn.2)
   ·exact A4H n 2 2 w hs hm hn.1 hn.2 rfl (fun w=>A6U n w hn.1 hn.2)
   ·exact A4G n 2 3 w hs hm hn.1 hn.2 rfl (fun w=>A6T n w hn.1 hn.2)
  ·have ha:¬ A3i n s m:=fun h=>hn ⟨h.1,h.2.1⟩;rw [lay,er,if_neg ha,if_neg ha];obtain ⟨f,hf⟩:=(A5r s m).2 hk;exact A5e n s m w hs hm hn hf
 ·have ha:¬ A3i n s m:=fun h=>hk h.2.2;rw [lay,er,if_neg ha,if_neg ha];refine A5P n s m w hs hm ?_;cases h:plan s m with
 |none=>rfl
 |some f=>exact absurd ((A5r s m).1 ⟨f,h⟩) hk
end Go.Proofs.YtkpbhdhkdonghaaGreat.Pol

namespace Go.Proofs.YtkpbhdhkdonghaaGreat.Pol
open Go Tryz Go.RowKit
variable {A:Addr} {l:I_} {xs:L_} {base c n:Nat} {e:TypeId} {u:Value} {w:World}
theorem A3X {v:Value} (h:w.ownsRow base e 1 v n xs):∃ a c,v=.slice a n c:=by
 rcases h.2 with ⟨rfl,h0⟩|⟨g,cap,cur,rfl,_⟩
 ·exact ⟨none,0,by rw [h0]⟩
 ·exact ⟨_,_,rfl⟩
theorem _root_.Go.Proofs.YtkpbhdhkdonghaaGreat.Src.at {j:Nat} (h:Src w (.slice (some A) n c) xs) (hj:xs[j]?=some u):w.cell? (A.add j)=some u:=by
 rcases h with ⟨h,_⟩|⟨A',c',h,hc⟩
 ·cases h
 ·cases h;exact hc j u hj
theorem _root_.Go.Proofs.YtkpbhdhkdonghaaGreat.Src.some {w:World} {a:Option Addr} {n c:Nat} {l:I_} (h:Src w (.slice a n c) (vs .i64 l)) {j:Nat} (hj:j < l.length):∃ A,a=some A:=by
 rcases h with ⟨_,h0⟩|⟨A,c,h,_⟩
 ·have:=congrArg List.length h0;rw [Ai] at this;simp only [List.length_nil] at this;omega
 ·injection h with h1;exact ⟨A,h1⟩
theorem BG:ET prog 3:=⟨fun w=>by kernel_rfl,by kernel_rfl⟩
def A3H (l:I_) (k:Nat):Int:=(l.take k).sum
theorem A4k (l:I_) (k:Nat) (h:k < l.length):A3H l (k+1)=A3H l k+gi l k:=by
 rw [A3H,List.take_succ_eq_append_getElem h,List.sum_append];simp [A3H,gi,List.getD_eq_getElem?_getD,l_e h]
theorem A6n (l:I_):A3H l l.length=l.sum:=by rw [A3H,List.take_length]
def A7b (l:I_):Prop:=l.length<=3/\∀ x ∈ l,0<=x/\x<=16777216
theorem A5t (h:A7b l) (k:Nat) (hk:k < l.length):0<=gi l k/\gi l k<=16777216:=by
 have:gi l k=l[k]:=by simp [gi,List.getD_eq_getElem?_getD,l_e hk]
 rw [this];exact h.2 _ (List.getElem_mem hk)
theorem A4l {l:I_} (h:A7b l):∀ k,k<=l.length->0<=A3H l k/\A3H l k<=16777216 * k
|0,_=>by simp [A3H]
|k+1,hk=>by
  have:=A4l h k (by omega);have:=A5t h k (by omega);rw [A4k l k (by omega)];omega
theorem A6p (n s m:Int):A7b (lay n s m):=by
 unfold lay;split
 ·rename_i h;have h1:=h.1;have h2:=h.2.1;unfold A74 A5Q rowsOf
  repeat' split
  all_goals (refine ⟨by simp,fun x hx=>?_⟩;simp only [List.mem_cons,List.not_mem_nil,or_false] at hx)
  all_goals omega
 ·exact ⟨by simp,fun x hx=>absurd hx (by simp)⟩
def need (n s m:Int):Int:=(lay n s m).sum
def A4U (w:World) (v e:Int) (x:Ending) (w':World):Prop:=x=.returned (.tuple #[.int .i64 v,.int .i64 e])/\Below w.heap.size w w'
theorem A40 (n s m:Int) (w:World) (hs:(Lit.int .u8 s).wf=true) (hm:(Lit.int .u8 m).wf=true):Calls prog 40 #[.int .i64 n,.int .u8 s,.int .u8 m] w (A4U w (need n s m) (er n s m)):=by
 have HS:=h_ hs;have HM:=h_ hm;have hsane:=A6p n s m;have HL:Hid (∀ w,Calls prog 94 #[.int .i64 n,.int .u8 s,.int .u8 m] w (A38 w (lay n s m) (er n s m))):=fun w=>A44 n s m w hs hm;have HN:Hid (need n s m=A3H (lay n s m) (lay n s m).length):=(A6n _).symm;clear hs hm;generalize need n s m=N at *;generalize lay n s m=l at *;generalize er n s m=e at *;obtain ⟨i3,hE⟩:=A4t;have HE:=h_ hE;have HSane:=h_ hsane;have hl3:=hsane.1;clear hE hsane;go_enter func40,ntmps40;have hm:=Own.nil w
 go_wp2_with (first
 |(go_at_call 94;refine (HL.out _).mono ?_;rintro e w1 ⟨⟨r1,rfl,ho1⟩,hb1⟩;obtain ⟨a1,c1,rfl⟩:=A3X ho1;have hm1:=hm.fG hb1 (A3o ho1);clear hm))
 go_loopw [6,20] (fun v u wr=>∃ k:Nat,k<=l.length/\v=.int .i64 (A3H l k)/\u=.int .i64 k/\Own w wr [] [(.slice a1 l.length c1,3,vs .i64 l)]) (fun _ u _=>l.length - (intOf u).toNat)
 case atStart=>exact ⟨0,by omega,rfl,rfl,hm1⟩
 case round =>
  obtain ⟨k,hk,rfl,rfl,hmr⟩:=hrel;clear hm1;by_cases hlt:k < l.length
  ·obtain ⟨A,rfl⟩:=Src.some (Src.Yo (hmr.get 0 rfl)) hlt;have hcell:=(Src.Yo (hmr.get 0 rfl)).at (Fg .i64 l k hlt);have hst:=A4k l k hlt;have hb1:=A4l HSane.out k hk;have hb2:=A5t HSane.out k hlt;have hw:IntKind.i64.wrap (A3H l k+gi l k)=A3H l k+gi l k:=i_6;generalize gi l k=x at *;have HST:=h_ hst;clear hst hb1 hb2
   go_wp2_with (first
   |(refine A8 rfl (Am rfl HE.out rfl rfl rfl hlt) ?_)
   |(refine A8 rfl (AU rfl rfl BG hcell) ?_))
   go_roundw
   case rel=>exact ⟨k+1,by omega,by rw [HST.out],by go_num,hmr⟩
   case measure=>simp [intOf];omega
  ·obtain rfl:k=l.length:=by omega
   go_wp2_with fail
   go_ret2
   exact ⟨by rw [HN.out];rfl,hmr.below⟩
end Go.Proofs.YtkpbhdhkdonghaaGreat.Pol
