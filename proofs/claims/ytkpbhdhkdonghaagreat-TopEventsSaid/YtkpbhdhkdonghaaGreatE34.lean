/-
  Part 34 of the proof.
-/
import Derived.Lib.EndianBits
import Derived.OwnWalk
import Derived.Test.YtkpbhdhkdonghaaGreatE06
import Derived.Test.YtkpbhdhkdonghaaGreatE10
import Derived.Test.YtkpbhdhkdonghaaGreatE11
import Derived.Test.YtkpbhdhkdonghaaGreatE13
import Derived.Test.YtkpbhdhkdonghaaGreatE21
set_option linter.all false
namespace Go.Proofs.YtkpbhdhkdonghaaGreat
set_option maxHeartbeats 2000000
set_option maxRecDepth 100000
open Go Go.RowKit
def w32 (l:List Int) (p:Nat):Nat->Int
|0=>0
|k+1=>w32 l p k+gi l (p+k) * 2 ^ (8 * k)
theorem V7 {l:List Int} (h:∀ i,0<=gi l i/\gi l i < 256) (p:Nat):∀ k:Nat,0<=w32 l p k/\w32 l p k < 2 ^ (8 * k)
|0=>by simp [w32]
|k+1=>by
  have h1:=V7 h p k
  have h2:=h (p+k)
  have h3:(0:Int) < 2 ^ (8 * k):=Int.pow_pos (by decide)
  have h4:=Int.mul_nonneg h2.1 (Int.le_of_lt h3)
  have h5:gi l (p+k) * 2 ^ (8 * k)<=255 * 2 ^ (8 * k):=Int.mul_le_mul_of_nonneg_right (by omega) (Int.le_of_lt h3)
  rw [w32,show 8 * (k+1)=8 * k+8 by omega,Int.pow_add]
  omega
theorem wB {l:List Int} (h:Bytes l) (i:Nat):0<=gi l i/\gi l i < 256:=by
 by_cases hi:i < l.length
 ·exact h _ (by rw [BZ l i hi];exact List.getElem_mem _)
 ·have:gi l i=0:=by simp [gi,List.getD,List.getElem?_eq_none (Nat.le_of_not_lt hi)]
  omega
theorem AA.sp {w:World} {g:Nat} {cs:Array Value} (h:AA w g cs):∀ W,Below w.heap.size w W->AA W g cs:=h.keep
theorem xK (ga gd a n i:Nat) (l:List Int) (live peak:Int) (w0:World) (hr:AA w0 ga (AR (.slice (some ⟨gd,0,none⟩) l.length l.length) live peak)) (h1:(a:Int)+n<=live) (h2:live<=l.length) (h3:l.length<=1048576) (h4:4 * i+4<=n):Calls Tryz.prog 117 #[.pointer (some ⟨ga,0,none⟩),.agg (SP a n),.int .i64 i] w0 (RB w0 (.slice (some ⟨gd,a+4 * i,none⟩) 4 4)):=by
 have CP:Hid (∀ W,Below w0.heap.size w0 W->Calls Tryz.prog 162 #[.pointer (some ⟨ga,0,none⟩),.agg (SP a n),.int .i64 ((4 * i:Nat):Int),.int .i64 4] W fun e w'=>(e=.returned (.slice (some ⟨gd,a+4 * i,none⟩) 4 4))/\Below W.heap.size W w'):=Lib.hid fun W h=>iJ ga gd l.length a n (4 * i) 4 live peak W (hr.keep W h) h1 h2 h3 h4 (by omega)
 have q1:decide ((i:Int) < 0)=false:=decide_eq_false (by omega)
 have q2:decide (1048576 < (i:Int))=false:=decide_eq_false (by omega)
 have w1:IntKind.i64.wrap ((i:Int) * 4)=((4 * i:Nat):Int):=by rw [IntWalk.i64_in _ (by omega)];push_cast;omega
 clear hr h1 h2 h3 h4
 go_enter Tryz.func117,Tryz.ntmps117
 have hm:=Own.nil w0
 go_wp2_with (first
 |(go_at_call 162;refine cB (CP.out _ hm.below) hm ?_;clear hm;intro w1 hm)
 |(with_reducible refine wb hm ?_;clear hm;intro w g hm)
 |(with_reducible refine wla 50 0 hm ?_ (ht:=(by with_unfolding_all exact Eo _ _))))
 go_ret
 exact ⟨rfl,hm.below⟩
theorem Zk {w:World} {o:Oper} {a:Act} {x y:Operand} {t':TypeId} (ho:o.op=.binOp .neq 22 x y t') {A:Addr} {n c:Nat} (hx:a.eval x=.slice (some A) n c) (hy:a.eval y=.slice none 0 0):(execOp a.eval o).run Tryz.prog w=.ok (.value (.bool true)) w:=by
 have h:(Op.equal 22 (.slice (some A) n c) (.slice none 0 0)).run Tryz.prog w=.ok false w:=Qi w A n c
 unfold execOp
 simp [ho,hx,hy,eqGuard,binOp,h,Result.andThen]
theorem dW (ga gd a n i:Nat) (l:List Int) (live peak:Int) (w0:World) (hr:AA w0 ga (AR (.slice (some ⟨gd,0,none⟩) l.length l.length) live peak)) (hd:AA w0 gd (B l)) (hb:Bytes l) (h1:(a:Int)+n<=live) (h2:live<=l.length) (h3:l.length<=1048576) (h4:4 * i+4<=n):Calls Tryz.prog 120 #[.pointer (some ⟨ga,0,none⟩),.agg (SP a n),.int .i64 i] w0 (RB w0 (.tuple #[.int .u32 (w32 l (a+4 * i) 4),.bool true])):=by
 have CP:Hid (∀ W,Below w0.heap.size w0 W->Calls Tryz.prog 117 #[.pointer (some ⟨ga,0,none⟩),.agg (SP a n),.int .i64 i] W fun e w'=>(e=.returned (.slice (some ⟨gd,a+4 * i,none⟩) 4 4))/\Below W.heap.size W w'):=Lib.hid fun W h=>xK ga gd a n i l live peak W (hr.keep W h) h1 h2 h3 h4
 have HD:=Lib.hid hd.keep
 have HG:Hid (∀ k,k < 4->(B l)[a+4 * i+k]?=some (.int .u8 (gi l (a+4 * i+k)))):=Lib.hid fun k hk=>Zd l _ (by omega)
 have HB:=Lib.hid (wB hb)
 obtain ⟨i5,hE⟩:=nP
 have HE:=Lib.hid hE
 clear hr hd hb h1 h2 h3 h4 hE
 generalize a+4 * i=p at *
 go_enter Tryz.func120,Tryz.ntmps120
 have hm:=Own.nil w0
 go_wp2_with (first
 |(go_at_call 117;refine cB (CP.out _ hm.below) hm ?_;clear hm;intro w1 hm)
 |(with_reducible refine wb hm ?_;clear hm;intro w g hm)
 |(with_reducible refine wla 50 0 hm ?_ (ht:=(by with_unfolding_all exact Eo _ _))))
 go_loopw [6,17] (fun z u wr=>∃ k:Nat,k<=4/\u=.int .i64 k/\z=.int .u32 (w32 l p k)/\Own w0 wr [(g,SP a n)] []) (fun _ u _=>4 - (intOf u).toNat)
 case atStart=>exact ⟨0,by omega,rfl,rfl,hm⟩
 case round =>
  clear hm
  obtain ⟨k,hk,rfl,rfl,hm⟩:=hrel
  have hc:k=0\/k=1\/k=2\/k=3\/k=4:=by omega
  clear hk
  have hB:=V7 HB.out p k
  have hx:=HB.out (p+k)
  have HW:Hid (w32 l p (k+1)=w32 l p k+gi l (p+k) * 2 ^ (8 * k)):=Lib.hid rfl
  rcases hc with rfl|rfl|rfl|rfl|rfl
  ·have hcell:=HG.out 0 (by decide)
   have hlt:0 < 4:=by decide
   generalize gi l (p+0)=x at *
   generalize w32 l p 0=y at *
   have w1:IntKind.u32.wrap x=x:=IntWalk.u32_in _ (by omega)
   have hm1:x * 1 % 4294967296=x * 1:=by omega
   have EO:Hid (Value.int .u32 (bits .or .u32 y x)=Value.int .u32 (y+x * 2 ^ (8 * 0))):=Lib.hid (by
    have h:=bits_join_low .u32 32 (by decide) (fun n h0 h1=>IntWalk.u32_in n (by omega)) 0 y x (by omega) (by omega) (by omega) (by omega) (by omega) (by omega)
    rw [h];simp)
   clear hB hx
   go_wp2_with (first
    |(with_reducible refine gIa ?_;(refine A8 rfl (ix1 (k:=0) rfl HE.out rfl rfl rfl hlt) ?_))
    |(with_reducible refine gLd (t:=5) ?_;(refine A8 rfl (Aa (off:=p+0) rfl rfl (HD.out _ hm.below) FV hcell) ?_)))
   go_roundw
   case rel=>exact ⟨1,by omega,rfl,by rw [HW.out];exact EO.out,hm⟩
   case measure=>simp [intOf]
  ·have hcell:=HG.out 1 (by decide)
   have hlt:1 < 4:=by decide
   generalize gi l (p+1)=x at *
   generalize w32 l p 1=y at *
   have w1:IntKind.u32.wrap x=x:=IntWalk.u32_in _ (by omega)
   have hm1:x * 256 % 4294967296=x * 256:=by omega
   have EO:Hid (Value.int .u32 (bits .or .u32 y (x * 256))=Value.int .u32 (y+x * 2 ^ (8 * 1))):=Lib.hid (by
    have h:=bits_join_low .u32 32 (by decide) (fun n h0 h1=>IntWalk.u32_in n (by omega)) 8 y (x * 256) (by omega) (by omega) (by omega) (by omega) (by omega) (by omega)
    rw [h];simp)
   clear hB hx
   go_wp2_with (first
    |(with_reducible refine gIa ?_;(refine A8 rfl (ix1 (k:=1) rfl HE.out rfl rfl rfl hlt) ?_))
    |(with_reducible refine gLd (t:=5) ?_;(refine A8 rfl (Aa (off:=p+1) rfl rfl (HD.out _ hm.below) FV hcell) ?_)))
   go_roundw
   case rel=>exact ⟨2,by omega,rfl,by rw [HW.out];exact EO.out,hm⟩
   case measure=>simp [intOf]
  ·have hcell:=HG.out 2 (by decide)
   have hlt:2 < 4:=by decide
   generalize gi l (p+2)=x at *
   generalize w32 l p 2=y at *
   have w1:IntKind.u32.wrap x=x:=IntWalk.u32_in _ (by omega)
   have hm1:x * 65536 % 4294967296=x * 65536:=by omega
   have EO:Hid (Value.int .u32 (bits .or .u32 y (x * 65536))=Value.int .u32 (y+x * 2 ^ (8 * 2))):=Lib.hid (by
    have h:=bits_join_low .u32 32 (by decide) (fun n h0 h1=>IntWalk.u32_in n (by omega)) 16 y (x * 65536) (by omega) (by omega) (by omega) (by omega) (by omega) (by omega)
    rw [h];simp)
   clear hB hx
   go_wp2_with (first
    |(with_reducible refine gIa ?_;(refine A8 rfl (ix1 (k:=2) rfl HE.out rfl rfl rfl hlt) ?_))
    |(with_reducible refine gLd (t:=5) ?_;(refine A8 rfl (Aa (off:=p+2) rfl rfl (HD.out _ hm.below) FV hcell) ?_)))
   go_roundw
   case rel=>exact ⟨3,by omega,rfl,by rw [HW.out];exact EO.out,hm⟩
   case measure=>simp [intOf]
  ·have hcell:=HG.out 3 (by decide)
   have hlt:3 < 4:=by decide
   generalize gi l (p+3)=x at *
   generalize w32 l p 3=y at *
   have w1:IntKind.u32.wrap x=x:=IntWalk.u32_in _ (by omega)
   have hm1:x * 16777216 % 4294967296=x * 16777216:=by omega
   have EO:Hid (Value.int .u32 (bits .or .u32 y (x * 16777216))=Value.int .u32 (y+x * 2 ^ (8 * 3))):=Lib.hid (by
    have h:=bits_join_low .u32 32 (by decide) (fun n h0 h1=>IntWalk.u32_in n (by omega)) 24 y (x * 16777216) (by omega) (by omega) (by omega) (by omega) (by omega) (by omega)
    rw [h];simp)
   clear hB hx
   go_wp2_with (first
    |(with_reducible refine gIa ?_;(refine A8 rfl (ix1 (k:=3) rfl HE.out rfl rfl rfl hlt) ?_))
    |(with_reducible refine gLd (t:=5) ?_;(refine A8 rfl (Aa (off:=p+3) rfl rfl (HD.out _ hm.below) FV hcell) ?_)))
   go_roundw
   case rel=>exact ⟨4,by omega,rfl,by rw [HW.out];exact EO.out,hm⟩
   case measure=>simp [intOf]
  ·go_wp2_with (first
    |(with_reducible refine gBo ?_;(refine A8 rfl (Zk rfl rfl rfl) ?_)))
   go_ret2
   exact ⟨rfl,hm.below⟩
set_option maxHeartbeats 400000
def stw (l:List Int) (p:Nat) (v:Int):Nat->List Int
|0=>l
|k+1=>(stw l p v k).set (p+k) (v / 2 ^ (8 * k) % 256)
theorem Xd (l:List Int) (p:Nat) (v:Int):∀ k,(stw l p v k).length=l.length
|0=>rfl
|k+1=>by rw [stw,List.length_set,Xd l p v k]
theorem ND (l:List Int) (p:Nat) (v:Int) (i:Nat):∀ k,p+k<=l.length->gi (stw l p v k) i=if p<=i/\i < p+k then v / 2 ^ (8 * (i - p)) % 256 else gi l i
|0,_=>by rw [stw,if_neg (by omega)]
|k+1,h=>by
  rw [stw,DY (by rw [Xd];omega),ND l p v i k (by omega)]
  by_cases e:i=p+k
  ·rw [if_pos e,if_pos (by omega),show i - p=k by omega]
  ·rw [if_neg e]
   by_cases e2:p<=i/\i < p+k
   ·rw [if_pos e2,if_pos (by omega)]
   ·rw [if_neg e2,if_neg (by omega)]
theorem V6 {l m:List Int} {p:Nat}:∀ k,(∀ i,p<=i->i < p+k->gi l i=gi m i)->w32 l p k=w32 m p k
|0,_=>rfl
|k+1,h=>by rw [w32,w32,V6 k (fun i h1 h2=>h i h1 (by omega)),h (p+k) (by omega) (by omega)]
theorem yX {l:List Int} {p:Nat} {v:Int} (h:p+4<=l.length) (h0:0<=v) (h1:v < 4294967296):w32 (stw l p v 4) p 4=v:=by
 simp only [w32]
 rw [ND l p v _ 4 h,ND l p v _ 4 h,ND l p v _ 4 h,ND l p v _ 4 h,if_pos (by omega),if_pos (by omega),if_pos (by omega),if_pos (by omega),show p+0 - p=0 by omega,show p+1 - p=1 by omega,show p+2 - p=2 by omega,show p+3 - p=3 by omega]
 simp
 omega
theorem aF {l:List Int} {p q:Nat} {v:Int} (h:p+4<=l.length) (hq:q+4<=p\/p+4<=q):w32 (stw l p v 4) q 4=w32 l q 4 :=
 V6 4 fun i h1 h2=>by rw [ND l p v i 4 h,if_neg (by omega)]
theorem V8 {l:List Int} {p:Nat} {v:Int} (hb:Bytes l):∀ k,Bytes (stw l p v k)
|0=>hb
|k+1=>fun x hx=>by
  rcases List.mem_or_eq_of_mem_set hx with h|rfl
  ·exact V8 hb k x h
  ·omega
set_option maxHeartbeats 400000
variable {col l l2:List Int} {a b d i n p q:Nat}
def Jp (l:List Int) (a n:Nat):List Int:=seg l a (a+n)
theorem A2p (h:a+n<=l.length) (hi:i < n):gi (Jp l a n) i=gi l (a+i):=by
 simp only [Jp,seg,gi,List.getD]
 rw [List.getElem?_drop,List.getElem?_take_of_lt (by omega)]
theorem A0d (h:a+n<=l.length):(Jp l a n).length=n:=by simp [Jp,seg];omega
structure Marks (col:List Int) (l l2:List Int) (b d q p:Nat):Prop where
 len:l2.length=l.length
 byt:Bytes l2
 out:∀ i,i < b->gi l2 i=gi l i
 word:∀ j c,c < 256->(j < q\/j=q/\c < p)->w32 l2 (b+4 * (256 * j+c)) 4=eqn (col.take ((j+1) * d)) c
theorem Marks.set (h:Marks col l l2 b d q p) (hp:p < 256) (hf:b+4 * (256 * q+p)+4<=l.length) {v:Int} (hv:v=eqn (col.take ((q+1) * d)) p) (v1:v < 4294967296):Marks col l (stw l2 (b+4 * (256 * q+p)) v 4) b d q (p+1):=by
 have hl:=h.len
 refine ⟨by rw [Xd,hl],V8 h.byt 4,fun i hi=>?_,fun j c hc hjc=>?_⟩
 ·rw [ND _ _ _ _ 4 (by omega),if_neg (by omega),h.out i hi]
 ·by_cases e:j=q/\c=p
  ·obtain ⟨rfl,rfl⟩:=e
   rw [yX (by omega) (by rw [hv];exact (Fz _ _).1) v1,hv]
  ·rw [aF (by omega) (by omega)]
   exact h.word j c hc (by omega)
theorem Marks.up (h:Marks col l l2 b d q 256):Marks col l l2 b d (q+1) 0 :=
 ⟨h.len,h.byt,h.out,fun j c hc hjc=>h.word j c hc (by omega)⟩
theorem Marks.zero (col l:List Int) (hb:Bytes l) (b d:Nat):Marks col l l b d 0 0:=⟨rfl,hb,fun _ _=>rfl,fun j c _ h=>by omega⟩
set_option maxHeartbeats 400000
theorem Zl {P:Program} {w:World} {o:Oper} {a:Act} {x y:Operand} (hu:P.underlying 3=some (.int .i64)) (ho:o.op=.binOp .mul 3 x y 3) {u v z:Int} (hx:a.eval x=.int .i64 u) (hy:a.eval y=.int .i64 v) (hw:IntKind.i64.wrap (u * v)=z):(execOp a.eval o).run P w=.ok (.value (.int .i64 z)) w:=by
 unfold execOp
 simp [ho,hx,hy,eqGuard,binOp,Op.intArith,Result.andThen,hw]
set_option maxHeartbeats 4000000
set_option maxRecDepth 100000
structure A0Y (l:List Int) (a n b d:Nat):Prop where
 byt:Bytes l
 word:∀ j c,c < 256->j < n / d->w32 l (b+4 * (256 * j+c)) 4=eqn ((Jp l a n).take ((j+1) * d)) c
theorem sN (ga gd a n b m d c place:Nat) (l:List Int) (live peak:Int) (w0:World) (hr:AA w0 ga (AR (.slice (some ⟨gd,0,none⟩) l.length l.length) live peak)) (hd:AA w0 gd (B l)) (hS:A0Y l a n b d) (h:RkOk live a n b m d) (h2:live<=l.length) (h3:l.length<=1048576) (hc:c < 256) (hp:place<=n):Calls Tryz.prog 70 #[.pointer (some ⟨ga,0,none⟩),.agg (SP a n),.agg (SP b m),.int .i64 d,.int .u8 c,.int .i64 place] w0 (RB w0 (.tuple #[.int .i64 (eqn ((Jp l a n).take place) c),.int .i64 ((place % d:Nat):Int),.bool true])):=by
 have CV:Hid (∀ W,Below w0.heap.size w0 W->Calls Tryz.prog 118 #[.pointer (some ⟨ga,0,none⟩),.agg (SP a n),.agg (SP b m),.int .i64 d] W fun e w'=>(e=.returned (.bool true))/\Below W.heap.size W w'):=Lib.hid fun W hW=>lD ga _ live peak a n b m d h W (hr.keep W hW)
 obtain ⟨n1,n2,d1,d2,ap,fit,big,lim⟩:=h
 have HL:Hid ((Jp l a n).length=n):=Lib.hid (A0d (by omega))
 have HCG:Hid (∀ i,i < n->gi (Jp l a n) i=gi l (a+i)):=Lib.hid fun i hi=>A2p (by omega) hi
 have HBY:=Lib.hid (hS.byt)
 obtain ⟨q,hq⟩:∃ q:Nat,q=place / d:=⟨_,rfl⟩
 obtain ⟨t,ht⟩:∃ t:Nat,t=q * d:=⟨_,rfl⟩
 have htp:t<=place:=by rw [ht,hq];exact Nat.div_mul_le_self place d
 have hr0:place % d=place - t:=by rw [ht,hq];have:=Nat.div_add_mod place d;rw [Nat.mul_comm] at this;omega
 have e1:(place:Int).tdiv d=(q:Int):=by rw [hq];rfl
 have e2:(place:Int) / d=(q:Int):=by rw [hq];rfl
 have hqn:q<=place:=by rw [hq];exact Nat.div_le_self place d
 have hqd:q<=n / d:=by rw [hq];exact Nat.div_le_div_right hp
 have CW:Hid (∀ W,Below w0.heap.size w0 W->0 < q->Calls Tryz.prog 120 #[.pointer (some ⟨ga,0,none⟩),.agg (SP b m),.int .i64 (((q:Int) - 1) * 256+c)] W fun e w'=>(e=.returned (.tuple #[.int .u32 (eqn ((Jp l a n).take t) c),.bool true]))/\Below W.heap.size W w'):=Lib.hid fun W hW hq0=>by
  have hx:=dW ga gd b m (256 * (q - 1)+c) l live peak W (hr.keep W hW) (hd.keep W hW) hS.byt (by omega) h2 h3 (by omega)
  rw [hS.word (q - 1) c hc (by omega),show q - 1+1=q by omega,<- ht] at hx
  rw [show ((q:Int) - 1) * 256+c=((256 * (q - 1)+c:Nat):Int) by omega]
  exact hx
 have CB:Hid (∀ W (i:Nat),Below w0.heap.size w0 W->i < n->Calls Tryz.prog 116 #[.pointer (some ⟨ga,0,none⟩),.agg (SP a n),.int .i64 i] W fun e w'=>(e=.returned (.tuple #[.int .u8 (gi (Jp l a n) i),.bool true]))/\Below W.heap.size W w'):=Lib.hid fun W i hW hi=>by
  have:=A0G ga gd a n i l live peak W (hr.keep W hW) (hd.keep W hW) (by omega) h2 h3 hi
  rwa [<- HCG.out i hi] at this
 have q0:((d:Int) == 0)=false:=by simp;omega
 have q0b:(d:Int) ≠ 0:=by omega
 have w1:IntKind.i64.wrap (q:Int)=(q:Int):=IntWalk.i64_in _ (by omega)
 have HW2:Hid (IntKind.i64.wrap ((q:Int) * (d:Int))=(t:Int)):=Lib.hid (by rw [show (q:Int) * (d:Int)=((q * d:Nat):Int) by push_cast;rfl,<- ht];exact IntWalk.i64_in _ (by omega))
 have w3:wi place 0 n=true:=Eu (by omega) (by omega)
 have HR0:=Lib.hid hr0
 have HT0:Hid (q=0->t=0):=Lib.hid (fun h=>by rw [ht,h,Nat.zero_mul])
 clear hr hd hS hq ht hr0 hqd big HCG
 generalize Jp l a n=col at *
 by_cases hq0:q=0
 ·subst hq0
  have HT1:Hid (t=0):=Lib.hid (HT0.out rfl)
  clear HT0
  go_enter Tryz.func70,Tryz.ntmps70
  have hm:=Own.nil w0
  go_wp2_with (first
  |(go_at_call 118;refine cB (CV.out _ hm.below) hm ?_;clear hm;intro w1 hm)
  |(go_at_call 119;refine (QK _ _ _ _).mono ?_;rintro e w1 ⟨rfl,rfl⟩)
  |(with_reducible refine wb hm ?_;clear hm;first|(have _t:=g1;intro w g2 hm)|intro w g1 hm)
  |(with_reducible refine gBo ?_;(refine A8 rfl (Zl Tryz.underlying3 rfl rfl rfl HW2.out) ?_))
  |(with_reducible (first|refine wl 3 0 hm ?_ (hv:=(by with_unfolding_all (first|exact (SP0 _ _)|exact (SP1 _ _))))|refine wl 3 1 hm ?_ (hv:=(by with_unfolding_all (first|exact (SP0 _ _)|exact (SP1 _ _))))))
  |(with_reducible (first|refine wla 50 0 hm ?_ (ht:=(by with_unfolding_all exact Eo _ _))|refine wla 50 1 hm ?_ (ht:=(by with_unfolding_all exact Eo _ _)))))
  go_loopw [12,13,18] (fun z y u wr=>∃ i:Nat,t<=i/\i<=place/\u=.int .i64 i/\z=.int .i64 (eqn (col.take i) c)/\y=.int .i64 ((i - t:Nat):Int)/\Own w0 wr [(g2,SP b m),(g1,SP a n)] []) (fun _ _ u _=>place - (intOf u).toNat)
  case atStart=>exact ⟨t,Nat.le_refl _,htp,rfl,by rw [HT1.out];simp [eqn],by rw [Nat.sub_self];rfl,hm⟩
  case round =>
   clear hm
   obtain ⟨i,hi0,hi,rfl,rfl,rfl,hm⟩:=hrel
   by_cases hlt:i < place
   ·have hin:i < n:=by omega
    have HE:=Lib.hid (Jm col i (by rw [HL.out];exact hin) c)
    have hbd:=Fz (col.take i) c
    have hlt2:=List.length_take_le' i col
    rw [HL.out] at hlt2
    have w4:IntKind.i64.wrap (eqn (col.take i) c+1)=eqn (col.take i) c+1:=IntWalk.i64_in _ (by omega)
    have w5:IntKind.i64.wrap ((((i - t:Nat)):Int)+1)=(((i - t:Nat)):Int)+1:=IntWalk.i64_in _ (by omega)
    have HY:Hid (((i+1 - t:Nat):Int)=(((i - t:Nat)):Int)+1):=Lib.hid (by omega)
    have hin2:=hin
    clear hbd hlt2
    generalize (((i - t:Nat)):Int)=y1 at *
    generalize eqn (col.take i) c=z1 at *
    have CB1:Hid (∀ W,Below w0.heap.size w0 W->Calls Tryz.prog 116 #[.pointer (some ⟨ga,0,none⟩),.agg (SP a n),.int .i64 i] W fun e w'=>(e=.returned (.tuple #[.int .u8 (gi col i),.bool true]))/\Below W.heap.size W w'):=Lib.hid fun W h=>CB.out W i h hin
    generalize gi col i=x at *
    by_cases hx:x=c
    ·rw [if_pos hx] at HE
     subst hx
     have p1:((c:Int) == (c:Int))=true:=by simp
     go_wp2_with (first
      |(go_at_call 116;refine cB (CB1.out _ hm.below) hm ?_;clear hm;intro w1 hm)
      |(with_reducible refine wla 50 1 hm ?_ (ht:=(by with_unfolding_all exact Eo _ _))))
     go_roundw
     case rel=>exact ⟨i+1,by omega,by omega,by go_num,by rw [HE.out],by rw [HY.out],hm⟩
     case measure=>simp [intOf];omega
    ·rw [if_neg hx,Int.add_zero] at HE
     have p1:(x == (c:Int))=false:=by simpa using hx
     clear hx
     go_wp2_with (first
      |(go_at_call 116;refine cB (CB1.out _ hm.below) hm ?_;clear hm;intro w1 hm)
      |(with_reducible refine wla 50 1 hm ?_ (ht:=(by with_unfolding_all exact Eo _ _))))
     go_roundw
     case rel=>exact ⟨i+1,by omega,by omega,by go_num,by rw [HE.out],by rw [HY.out],hm⟩
     case measure=>simp [intOf];omega
   ·obtain rfl:place=i:=by omega
    have HY:Hid (((place % d:Nat):Int)=(((place - t:Nat)):Int)):=Lib.hid (by rw [HR0.out])
    generalize (((place - t:Nat)):Int)=y1 at *
    generalize hz1:eqn (col.take place) c=z1 at *
    have HZ1:=Lib.hid hz1
    clear hz1
    go_wp2
    refine bodyPost_ret (results_tmp3 rfl _ _ _) rfl ⟨by first|(rw [HY.out];rfl)|(rw [HY.out,HZ1.out];rfl),hm.below⟩
 ·have hqp:0 < q:=by omega
  have p0:decide ((0:Int) < (q:Int))=true:=decide_eq_true (by omega)
  have p00:decide (0 < q)=true:=decide_eq_true hqp
  have w6:IntKind.i64.wrap ((q:Int) - 1)=(q:Int) - 1:=IntWalk.i64_in _ (by omega)
  have w7:IntKind.i64.wrap (((q:Int) - 1) * 256)=((q:Int) - 1) * 256:=IntWalk.i64_in _ (by omega)
  have w8:IntKind.i64.wrap (((q:Int) - 1) * 256+c)=((q:Int) - 1) * 256+c:=IntWalk.i64_in _ (by omega)
  have w9:IntKind.i64.wrap (c:Int)=c:=IntWalk.i64_in _ (by omega)
  have CW1:Hid (∀ W,Below w0.heap.size w0 W->Calls Tryz.prog 120 #[.pointer (some ⟨ga,0,none⟩),.agg (SP b m),.int .i64 (((q:Int) - 1) * 256+c)] W fun e w'=>(e=.returned (.tuple #[.int .u32 (eqn (col.take t) c),.bool true]))/\Below W.heap.size W w'):=Lib.hid fun W h=>CW.out W h hqp
  have hbd:=Fz (col.take t) c
  have hlt2:=List.length_take_le' t col
  rw [HL.out] at hlt2
  have w10:IntKind.i64.wrap (eqn (col.take t) c)=eqn (col.take t) c:=IntWalk.i64_in _ (by omega)
  have HZ:Hid (eqn (col.take t) c=eqn (col.take t) c):=Lib.hid rfl
  clear hbd hlt2
  go_enter Tryz.func70,Tryz.ntmps70
  have hm:=Own.nil w0
  go_wp2_with (first
   |(go_at_call 118;refine cB (CV.out _ hm.below) hm ?_;clear hm;intro w1 hm)
   |(go_at_call 120;refine cB (CW1.out _ hm.below) hm ?_;clear hm;intro w1 hm)
   |(go_at_call 119;refine (QK _ _ _ _).mono ?_;rintro e w1 ⟨rfl,rfl⟩)
   |(with_reducible refine wb hm ?_;clear hm;first|(have _t:=g1;intro w g2 hm)|intro w g1 hm)
   |(with_reducible refine gBo ?_;(refine A8 rfl (Zl Tryz.underlying3 rfl rfl rfl HW2.out) ?_))
   |(with_reducible (first|refine wl 3 0 hm ?_ (hv:=(by with_unfolding_all (first|exact (SP0 _ _)|exact (SP1 _ _))))|refine wl 3 1 hm ?_ (hv:=(by with_unfolding_all (first|exact (SP0 _ _)|exact (SP1 _ _))))))
   |(with_reducible (first|refine wla 50 0 hm ?_ (ht:=(by with_unfolding_all exact Eo _ _))|refine wla 50 1 hm ?_ (ht:=(by with_unfolding_all exact Eo _ _)))))
  go_loopw [12,13,18] (fun z y u wr=>∃ i:Nat,t<=i/\i<=place/\u=.int .i64 i/\z=.int .i64 (eqn (col.take i) c)/\y=.int .i64 ((i - t:Nat):Int)/\Own w0 wr [(g2,SP b m),(g1,SP a n)] []) (fun _ _ u _=>place - (intOf u).toNat)
  case atStart=>exact ⟨t,Nat.le_refl _,htp,rfl,rfl,by rw [Nat.sub_self];rfl,hm⟩
  case round =>
   clear hm
   obtain ⟨i,hi0,hi,rfl,rfl,rfl,hm⟩:=hrel
   by_cases hlt:i < place
   ·have hin:i < n:=by omega
    have HE:=Lib.hid (Jm col i (by rw [HL.out];exact hin) c)
    have hbd:=Fz (col.take i) c
    have hlt2:=List.length_take_le' i col
    rw [HL.out] at hlt2
    have w4:IntKind.i64.wrap (eqn (col.take i) c+1)=eqn (col.take i) c+1:=IntWalk.i64_in _ (by omega)
    have w5:IntKind.i64.wrap ((((i - t:Nat)):Int)+1)=(((i - t:Nat)):Int)+1:=IntWalk.i64_in _ (by omega)
    have HY:Hid (((i+1 - t:Nat):Int)=(((i - t:Nat)):Int)+1):=Lib.hid (by omega)
    have hin2:=hin
    clear hbd hlt2
    generalize (((i - t:Nat)):Int)=y1 at *
    generalize eqn (col.take i) c=z1 at *
    have CB1:Hid (∀ W,Below w0.heap.size w0 W->Calls Tryz.prog 116 #[.pointer (some ⟨ga,0,none⟩),.agg (SP a n),.int .i64 i] W fun e w'=>(e=.returned (.tuple #[.int .u8 (gi col i),.bool true]))/\Below W.heap.size W w'):=Lib.hid fun W h=>CB.out W i h hin
    generalize gi col i=x at *
    by_cases hx:x=c
    ·rw [if_pos hx] at HE
     subst hx
     have p1:((c:Int) == (c:Int))=true:=by simp
     go_wp2_with (first
      |(go_at_call 116;refine cB (CB1.out _ hm.below) hm ?_;clear hm;intro w1 hm)
      |(with_reducible refine wla 50 1 hm ?_ (ht:=(by with_unfolding_all exact Eo _ _))))
     go_roundw
     case rel=>exact ⟨i+1,by omega,by omega,by go_num,by rw [HE.out],by rw [HY.out],hm⟩
     case measure=>simp [intOf];omega
    ·rw [if_neg hx,Int.add_zero] at HE
     have p1:(x == (c:Int))=false:=by simpa using hx
     clear hx
     go_wp2_with (first
      |(go_at_call 116;refine cB (CB1.out _ hm.below) hm ?_;clear hm;intro w1 hm)
      |(with_reducible refine wla 50 1 hm ?_ (ht:=(by with_unfolding_all exact Eo _ _))))
     go_roundw
     case rel=>exact ⟨i+1,by omega,by omega,by go_num,by rw [HE.out],by rw [HY.out],hm⟩
     case measure=>simp [intOf];omega
   ·obtain rfl:place=i:=by omega
    have HY:Hid (((place % d:Nat):Int)=(((place - t:Nat)):Int)):=Lib.hid (by rw [HR0.out])
    generalize (((place - t:Nat)):Int)=y1 at *
    generalize hz1:eqn (col.take place) c=z1 at *
    have HZ1:=Lib.hid hz1
    clear hz1
    go_wp2
    refine bodyPost_ret (results_tmp3 rfl _ _ _) rfl ⟨by first|(rw [HY.out];rfl)|(rw [HY.out,HZ1.out];rfl),hm.below⟩
end Go.Proofs.YtkpbhdhkdonghaaGreat
