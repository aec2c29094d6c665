/-
  Part 24 of the proof.
-/
import Derived.Lib.EndianBits
import Derived.Test.YtkpbhdhkdonghaaGreatA15
set_option linter.all false
set_option maxHeartbeats 4000000
set_option maxRecDepth 100000
namespace Go.Proofs.YtkpbhdhkdonghaaGreat
open Go Tryz Go.RowKit
def w32 (l:I_) (p:Nat):Nat->Int
|0=>0
|k+1=>w32 l p k+gi l (p+k) * 2 ^ (8 * k)
theorem V7 {l:I_} (h:∀ i,0<=gi l i/\gi l i < 256) (p:Nat):∀ k:Nat,0<=w32 l p k/\w32 l p k < 2 ^ (8 * k)
|0=>by simp [w32]
|k+1=>by
  have h1:=V7 h p k;have h2:=h (p+k);have h3:(0:Int) < 2 ^ (8 * k):=Int.pow_pos (by decide);have h4:=Int.mul_nonneg h2.1 (Int.le_of_lt h3);have h5:gi l (p+k) * 2 ^ (8 * k)<=255 * 2 ^ (8 * k):=Int.mul_le_mul_of_nonneg_right (by omega) (Int.le_of_lt h3);rw [w32,show 8 * (k+1)=8 * k+8 by omega,Int.pow_add];omega
theorem wB {l:I_} (h:Bytes l) (i:Nat):0<=gi l i/\gi l i < 256:=by
 by_cases hi:i < l.length
 ·exact h _ (by rw [BZ l i hi];exact List.getElem_mem _)
 ·have:gi l i=0:=by simp [gi,List.getD,List.getElem?_eq_none (Nat.le_of_not_lt hi)]
  omega
theorem xK (ga gd a n i:Nat) (l:I_) (live peak:Int) (w0:World) (hr:AA w0 ga (AR (.slice (some ⟨gd,0,none⟩) l.length l.length) live peak)) (h1:(a:Int)+n<=live) (h2:live<=l.length) (h3:l.length<=1048576) (h4:4 * i+4<=n):Calls prog 117 #[.pointer (some ⟨ga,0,none⟩),.agg (SP a n),.int .i64 i] w0 (RB w0 (.slice (some ⟨gd,a+4 * i,none⟩) 4 4)):=by
 have CP:Hid (∀ W,Below w0.heap.size w0 W->Calls prog 162 #[.pointer (some ⟨ga,0,none⟩),.agg (SP a n),.int .i64 ((4 * i:Nat):Int),.int .i64 4] W fun e w'=>(e=.returned (.slice (some ⟨gd,a+4 * i,none⟩) 4 4))/\Below W.heap.size W w'):=h_ fun W h=>iJ ga gd l.length a n (4 * i) 4 live peak W (hr.keep W h) h1 h2 h3 h4 (by omega);have q1:decide ((i:Int) < 0)=false:=d_f;have q2:decide (1048576 < (i:Int))=false:=d_f;have w1:IntKind.i64.wrap ((i:Int) * 4)=((4 * i:Nat):Int):=by rw [IntWalk.i64_in _ (by omega)];push_cast;omega
 clear hr h1 h2 h3 h4;go_enter func117,ntmps117;have hm:=Own.nil w0
 go_wp2_with (first
 |(go_at_call 162;refine cB (CP.out _ hm.below) hm ?_;clear hm;intro w1 hm)
 |(with_reducible first|(refine wb hm ?_;clear hm;intro w g hm)|(refine wla 50 0 hm ?_ (ht:=c_z (Eo _ _)))))
 go_ret;exact xg6
theorem Zk {w:World} {o:Oper} {a:Act} {x y:Operand} {t':TypeId} (ho:o.op=.binOp .neq 22 x y t') {A:Addr} {n c:Nat} (hx:a.eval x=.slice (some A) n c) (hy:a.eval y=.slice none 0 0):(execOp a.eval o).run prog w=.ok (.value (.bool true)) w:=by
 have h:(Op.equal 22 (.slice (some A) n c) (.slice none 0 0)).run prog w=.ok false w:=Qi w A n c;exact xhb
theorem dW (ga gd a n i:Nat) (l:I_) (live peak:Int) (w0:World) (hr:AA w0 ga (AR (.slice (some ⟨gd,0,none⟩) l.length l.length) live peak)) (hd:AA w0 gd (B l)) (hb:Bytes l) (h1:(a:Int)+n<=live) (h2:live<=l.length) (h3:l.length<=1048576) (h4:4 * i+4<=n):Calls prog 120 #[.pointer (some ⟨ga,0,none⟩),.agg (SP a n),.int .i64 i] w0 (RB w0 (.tuple #[.int .u32 (w32 l (a+4 * i) 4),.bool true])):=by
 have CP:Hid (∀ W,Below w0.heap.size w0 W->Calls prog 117 #[.pointer (some ⟨ga,0,none⟩),.agg (SP a n),.int .i64 i] W fun e w'=>(e=.returned (.slice (some ⟨gd,a+4 * i,none⟩) 4 4))/\Below W.heap.size W w'):=h_ fun W h=>xK ga gd a n i l live peak W (hr.keep W h) h1 h2 h3 h4;have HD:=h_ hd.keep;have HG:Hid (∀ k,k < 4->(B l)[a+4 * i+k]?=some (.int .u8 (gi l (a+4 * i+k)))):=h_ fun k hk=>Zd l _ (by omega);have HB:=h_ (wB hb);obtain ⟨i5,hE⟩:=nP;have HE:=h_ hE;clear hr hd hb h1 h2 h3 h4 hE;generalize a+4 * i=p at *;go_enter func120,ntmps120;have hm:=Own.nil w0
 go_wp2_with (first
 |(go_at_call 117;refine cB (CP.out _ hm.below) hm ?_;clear hm;intro w1 hm)
 |(with_reducible first|(refine wb hm ?_;clear hm;intro w g hm)|(refine wla 50 0 hm ?_ (ht:=c_z (Eo _ _)))))
 go_loopw [6,17] (fun z u wr=>∃ k:Nat,k<=4/\u=.int .i64 k/\z=.int .u32 (w32 l p k)/\Own w0 wr [(g,SP a n)] []) (fun _ u _=>4 - (intOf u).toNat)
 case atStart=>exact ⟨0,by omega,rfl,rfl,hm⟩
 case round =>
  clear hm;obtain ⟨k,hk,rfl,rfl,hm⟩:=hrel;have hc:k=0\/k=1\/k=2\/k=3\/k=4:=by omega
  clear hk;have hB:=V7 HB.out p k;have hx:=HB.out (p+k);have HW:Hid (w32 l p (k+1)=w32 l p k+gi l (p+k) * 2 ^ (8 * k)):=h_ rfl;rcases hc with rfl|rfl|rfl|rfl|rfl
  ·have hcell:=HG.out 0 (by decide);have hlt:0 < 4:=by decide
   generalize gi l (p+0)=x at *;generalize w32 l p 0=y at *;have w1:IntKind.u32.wrap x=x:=IntWalk.u32_in _ (by omega);have hm1:x * 1 % 4294967296=x * 1:=by omega
   have EO:Hid (Value.int .u32 (bits .or .u32 y x)=Value.int .u32 (y+x * 2 ^ (8 * 0))):=h_ (by
    have h:=bits_join_low .u32 32 (by decide) (fun n h0 h1=>IntWalk.u32_in n (by omega)) 0 y x (by omega) (by omega) (by omega) (by omega) (by omega) (by omega)
    rw [h];simp)
   clear hB hx
   go_wp2_with (first
    |(with_reducible refine gIa ?_;(refine A8 rfl (ix1 (k:=0) rfl HE.out rfl rfl rfl hlt) ?_))
    |(with_reducible refine gLd (t:=5) ?_;(refine A8 rfl (Aa (off:=p+0) rfl rfl (HD.out _ hm.below) FV hcell) ?_)))
   go_roundw
   case rel=>exact ⟨1,by omega,rfl,by rw [HW.out];exact EO.out,hm⟩
   case measure=>simp [intOf]
  ·have hcell:=HG.out 1 (by decide);have hlt:1 < 4:=by decide
   generalize gi l (p+1)=x at *;generalize w32 l p 1=y at *;have w1:IntKind.u32.wrap x=x:=IntWalk.u32_in _ (by omega);have hm1:x * 256 % 4294967296=x * 256:=by omega
   have EO:Hid (Value.int .u32 (bits .or .u32 y (x * 256))=Value.int .u32 (y+x * 2 ^ (8 * 1))):=h_ (by
    have h:=bits_join_low .u32 32 (by decide) (fun n h0 h1=>IntWalk.u32_in n (by omega)) 8 y (x * 256) (by omega) (by omega) (by omega) (by omega) (by omega) (by omega)
    rw [h];simp)
   clear hB hx
   go_wp2_with (first
    |(with_reducible refine gIa ?_;(refine A8 rfl (ix1 (k:=1) rfl HE.out rfl rfl rfl hlt) ?_))
    |(with_reducible refine gLd (t:=5) ?_;(refine A8 rfl (Aa (off:=p+1) rfl rfl (HD.out _ hm.below) FV hcell) ?_)))
   go_roundw
   case rel=>exact ⟨2,by omega,rfl,by rw [HW.out];exact EO.out,hm⟩
   case measure=>simp [intOf]
  ·have hcell:=HG.out 2 (by decide);have hlt:2 < 4:=by decide
   generalize gi l (p+2)=x at *;generalize w32 l p 2=y at *;have w1:IntKind.u32.wrap x=x:=IntWalk.u32_in _ (by omega);have hm1:x * 65536 % 4294967296=x * 65536:=by omega
   have EO:Hid (Value.int .u32 (bits .or .u32 y (x * 65536))=Value.int .u32 (y+x * 2 ^ (8 * 2))):=h_ (by
    have h:=bits_join_low .u32 32 (by decide) (fun n h0 h1=>IntWalk.u32_in n (by omega)) 16 y (x * 65536) (by omega) (by omega) (by omega) (by omega) (by omega) (by omega)
    rw [h];simp)
   clear hB hx
   go_wp2_with (first
    |(with_reducible refine gIa ?_;(refine A8 rfl (ix1 (k:=2) rfl HE.out rfl rfl rfl hlt) ?_))
    |(with_reducible refine gLd (t:=5) ?_;(refine A8 rfl (Aa (off:=p+2) rfl rfl (HD.out _ hm.below) FV hcell) ?_)))
   go_roundw
   case rel=>exact ⟨3,by omega,rfl,by rw [HW.out];exact EO.out,hm⟩
   case measure=>simp [intOf]
  ·have hcell:=HG.out 3 (by decide);have hlt:3 < 4:=by decide
   generalize gi l (p+3)=x at *;generalize w32 l p 3=y at *;have w1:IntKind.u32.wrap x=x:=IntWalk.u32_in _ (by omega);have hm1:x * 16777216 % 4294967296=x * 16777216:=by omega
   have EO:Hid (Value.int .u32 (bits .or .u32 y (x * 16777216))=Value.int .u32 (y+x * 2 ^ (8 * 3))):=h_ (by
    have h:=bits_join_low .u32 32 (by decide) (fun n h0 h1=>IntWalk.u32_in n (by omega)) 24 y (x * 16777216) (by omega) (by omega) (by omega) (by omega) (by omega) (by omega)
    rw [h];simp)
   clear hB hx
   go_wp2_with (first
    |(with_reducible refine gIa ?_;(refine A8 rfl (ix1 (k:=3) rfl HE.out rfl rfl rfl hlt) ?_))
    |(with_reducible refine gLd (t:=5) ?_;(refine A8 rfl (Aa (off:=p+3) rfl rfl (HD.out _ hm.below) FV hcell) ?_)))
   go_roundw
   case rel=>exact ⟨4,by omega,rfl,by rw [HW.out];exact EO.out,hm⟩
   case measure=>simp [intOf]
  ·go_wp2_with (first
    |(with_reducible refine gBo ?_;(refine A8 rfl (Zk rfl rfl rfl) ?_)))
   go_ret2
   exact xg6
def stw (l:I_) (p:Nat) (v:Int):Nat->I_
|0=>l
|k+1=>(stw l p v k).set (p+k) (v / 2 ^ (8 * k) % 256)
theorem Xd (l:I_) (p:Nat) (v:Int):∀ k,(stw l p v k).length=l.length
|0=>rfl
|k+1=>by rw [stw,List.length_set,Xd l p v k]
theorem ND (l:I_) (p:Nat) (v:Int) (i:Nat):∀ k,p+k<=l.length->gi (stw l p v k) i=if p<=i/\i < p+k then v / 2 ^ (8 * (i - p)) % 256 else gi l i
|0,_=>by rw [stw,if_neg (by omega)]
|k+1,h=>by
  rw [stw,DY (by rw [Xd];omega),ND l p v i k (by omega)];by_cases e:i=p+k
  ·rw [if_pos e,if_pos (by omega),show i - p=k by omega]
  ·rw [if_neg e];by_cases e2:p<=i/\i < p+k
   ·rw [if_pos e2,if_pos (by omega)]
   ·rw [if_neg e2,if_neg (by omega)]
theorem V6 {l m:I_} {p:Nat}:∀ k,(∀ i,p<=i->i < p+k->gi l i=gi m i)->w32 l p k=w32 m p k
|0,_=>rfl
|k+1,h=>by rw [w32,w32,V6 k (fun i h1 h2=>h i h1 (by omega)),h (p+k) (by omega) (by omega)]
theorem yX {l:I_} {p:Nat} {v:Int} (h:p+4<=l.length) (h0:0<=v) (h1:v < 4294967296):w32 (stw l p v 4) p 4=v:=by
 simp only [w32];rw [ND l p v _ 4 h,ND l p v _ 4 h,ND l p v _ 4 h,ND l p v _ 4 h,if_pos (by omega),if_pos (by omega),if_pos (by omega),if_pos (by omega),show p+0 - p=0 by omega,show p+1 - p=1 by omega,show p+2 - p=2 by omega,show p+3 - p=3 by omega];simp;omega
theorem aF {l:I_} {p q:Nat} {v:Int} (h:p+4<=l.length) (hq:q+4<=p\/p+4<=q):w32 (stw l p v 4) q 4=w32 l q 4 :=
 V6 4 fun i h1 h2=>by rw [ND l p v i 4 h,if_neg (by omega)]
theorem V8 {l:I_} {p:Nat} {v:Int} (hb:Bytes l):∀ k,Bytes (stw l p v k)
|0=>hb
|k+1=>fun x hx=>by
  rcases List.mem_or_eq_of_mem_set hx with h|rfl
  ·exact V8 hb k x h
  ·omega
theorem A3V (ga gd a n i:Nat) (l:I_) (v live peak:Int) (w0 w:World) (rs:Rws) (ss:List Sl) (ja jd:Nat) (hm:Own w0 w rs ss) (hja:rs[ja]?=some (ga,AR (.slice (some ⟨gd,0,none⟩) l.length l.length) live peak)) (hjd:rs[jd]?=some (gd,B l)) (h1:(a:Int)+n<=live) (h2:live<=l.length) (h3:l.length<=1048576) (h4:4 * i+4<=n) (v0:0<=v) (v1:v < 4294967296) (hne:ja ≠ jd):Calls prog 68 #[.pointer (some ⟨ga,0,none⟩),.agg (SP a n),.int .i64 i,.int .u32 v] w fun e w'=>(e=.returned (.bool true))/\Own w0 w' (rs.set jd (gd,B (stw l (a+4 * i) v 4))) ss:=by
 have CP:Hid (∀ W,AA W ga (AR (.slice (some ⟨gd,0,none⟩) l.length l.length) live peak)->Calls prog 117 #[.pointer (some ⟨ga,0,none⟩),.agg (SP a n),.int .i64 i] W fun e w'=>(e=.returned (.slice (some ⟨gd,a+4 * i,none⟩) 4 4))/\Below W.heap.size W w'):=h_ fun W h=>xK ga gd a n i l live peak W h h1 h2 h3 h4;have hjl:=(List.getElem?_eq_some_iff.1 hjd).1;have HS:Hid (∀ k,k < 4->(B (stw l (a+4 * i) v k)).setIfInBounds (a+4 * i+k) (.int .u8 (v / 2 ^ (8 * k) % 256))=B (stw l (a+4 * i) v (k+1))):=h_ fun k hk=>by rw [A1c];rfl
 have HZ:Hid (∀ k,k < 4->a+4 * i+k < (B (stw l (a+4 * i) v k)).size):=h_ fun k hk=>by rw [Ih,Xd];omega
 have hse:rs.set jd (gd,B l)=rs:=set_self rs jd _ hjd;have HSE:=h_ hse;have HJ:Hid (∀ (cs:A_) (x:Nat × A_),(x::rs.set jd (gd,cs))[jd+1]?=some (gd,cs)):=h_ fun cs x=>by simp [hjl]
 obtain ⟨i5,hE⟩:=nP;have HE:=h_ hE;have HA:=h_ hja;clear h1 h2 h3 h4 hE hja hjd hjl hse;generalize a+4 * i=p at *;go_enter func68,ntmps68
 go_wp2_with (first
 |(go_at_call 117;refine cB (CP.out _ (hm.row (ja+1) HA.out)) hm ?_;clear hm;intro w1 hm)
 |(with_reducible first|(refine wb hm ?_;clear hm;intro w g hm)|(refine wla 50 0 hm ?_ (ht:=c_z (Eo _ _)))))
 rw [<- HSE.out,show l=stw l p v 0 from rfl] at hm
 go_loopw [17] (fun u wr=>∃ k:Nat,k<=4/\u=.int .i64 k/\Own w0 wr ((g,SP a n)::rs.set jd (gd,B (stw l p v k))) ss) (fun u _=>4 - (intOf u).toNat)
 case atStart=>exact ⟨0,by omega,rfl,hm⟩
 case round =>
  clear hm;obtain ⟨k,hk,rfl,hm⟩:=hrel;have hc:k=0\/k=1\/k=2\/k=3\/k=4:=by omega
  clear hk;rcases hc with rfl|rfl|rfl|rfl|rfl
  ·have hs:=HS.out 0 (by decide);have hz:=HZ.out 0 (by decide);have hj:=HJ.out (B (stw l p v 0)) (g,SP a n);have HS1:=h_ hs;have HS2:Hid ((B (stw l p v 0)).setIfInBounds (p+0) (.int .u8 (v % 256))=B (stw l p v 1)):=h_ (by simpa using hs);have HS4:Hid ((B (stw l p v 0)).setIfInBounds (p+0) (.int .u8 (v % 256))=B (stw l p v 1)):=h_ (by exact HS2.out);have hlt:0 < 4:=by decide
   have hd:v / 1 / 1=v / 2 ^ (8 * 0):=by simp
   clear hs;generalize stw l p v 0=l1 at *;generalize hl2:stw l p v 1=l2 at *
   go_wp2_with (first
    |(with_reducible refine gIa ?_;(refine A8 rfl (ix1 (k:=0) rfl HE.out rfl rfl rfl hlt) ?_))
    |(with_reducible refine gSt (t:=5) ?_;(refine Ad rfl (AZ (off:=p+0) (jd+1) hm rfl rfl (Ac rfl) hj (ot rfl) hz rfl rfl (by first|exact HS2.out|exact HS1.out|exact HS4.out) ?_);clear hm;intro w hm;simp only [List.set_cons_succ,List.set_set] at hm)))
   go_roundw
   case rel=>exact ⟨1,by omega,rfl,by rw [hl2];exact hm⟩
   case measure=>simp [intOf]
  ·have hs:=HS.out 1 (by decide);have hz:=HZ.out 1 (by decide);have hj:=HJ.out (B (stw l p v 1)) (g,SP a n);have HS1:=h_ hs;have HS2:Hid ((B (stw l p v 1)).setIfInBounds (p+1) (.int .u8 (v / 256 % 256))=B (stw l p v 2)):=h_ (by simpa using hs);have HS4:Hid ((B (stw l p v 1)).setIfInBounds (p+1) (.int .u8 (v / 256 % 256))=B (stw l p v 2)):=h_ (by exact HS2.out);have hlt:1 < 4:=by decide
   have hd:v / 256 / 1=v / 2 ^ (8 * 1):=by simp
   clear hs;generalize stw l p v 1=l1 at *;generalize hl2:stw l p v 2=l2 at *
   go_wp2_with (first
    |(with_reducible refine gIa ?_;(refine A8 rfl (ix1 (k:=1) rfl HE.out rfl rfl rfl hlt) ?_))
    |(with_reducible refine gSt (t:=5) ?_;(refine Ad rfl (AZ (off:=p+1) (jd+1) hm rfl rfl (Ac rfl) hj (ot rfl) hz rfl rfl (by first|exact HS2.out|exact HS1.out|exact HS4.out) ?_);clear hm;intro w hm;simp only [List.set_cons_succ,List.set_set] at hm)))
   go_roundw
   case rel=>exact ⟨2,by omega,rfl,by rw [hl2];exact hm⟩
   case measure=>simp [intOf]
  ·have hs:=HS.out 2 (by decide);have hz:=HZ.out 2 (by decide);have hj:=HJ.out (B (stw l p v 2)) (g,SP a n);have HS1:=h_ hs;have HS2:Hid ((B (stw l p v 2)).setIfInBounds (p+2) (.int .u8 (v / 65536 % 256))=B (stw l p v 3)):=h_ (by simpa using hs);have HS4:Hid ((B (stw l p v 2)).setIfInBounds (p+2) (.int .u8 (v / 65536 % 256))=B (stw l p v 3)):=h_ (by exact HS2.out);have hlt:2 < 4:=by decide
   have hd:v / 65536 / 1=v / 2 ^ (8 * 2):=by simp
   clear hs;generalize stw l p v 2=l1 at *;generalize hl2:stw l p v 3=l2 at *
   go_wp2_with (first
    |(with_reducible refine gIa ?_;(refine A8 rfl (ix1 (k:=2) rfl HE.out rfl rfl rfl hlt) ?_))
    |(with_reducible refine gSt (t:=5) ?_;(refine Ad rfl (AZ (off:=p+2) (jd+1) hm rfl rfl (Ac rfl) hj (ot rfl) hz rfl rfl (by first|exact HS2.out|exact HS1.out|exact HS4.out) ?_);clear hm;intro w hm;simp only [List.set_cons_succ,List.set_set] at hm)))
   go_roundw
   case rel=>exact ⟨3,by omega,rfl,by rw [hl2];exact hm⟩
   case measure=>simp [intOf]
  ·have hs:=HS.out 3 (by decide);have hz:=HZ.out 3 (by decide);have hj:=HJ.out (B (stw l p v 3)) (g,SP a n);have HS1:=h_ hs;have HS2:Hid ((B (stw l p v 3)).setIfInBounds (p+3) (.int .u8 (v / 16777216 % 256))=B (stw l p v 4)):=h_ (by simpa using hs);have HS4:Hid ((B (stw l p v 3)).setIfInBounds (p+3) (.int .u8 (v / 16777216))=B (stw l p v 4)):=h_ (by have h:=HS2.out;rw [show v / 16777216 % 256=v / 16777216 by omega] at h;exact h);have hlt:3 < 4:=by decide
   have hd:v / 16777216 / 1=v / 2 ^ (8 * 3):=by simp
   clear hs;generalize stw l p v 3=l1 at *;generalize hl2:stw l p v 4=l2 at *
   go_wp2_with (first
    |(with_reducible refine gIa ?_;(refine A8 rfl (ix1 (k:=3) rfl HE.out rfl rfl rfl hlt) ?_))
    |(with_reducible refine gSt (t:=5) ?_;(refine Ad rfl (AZ (off:=p+3) (jd+1) hm rfl rfl (Ac rfl) hj (ot rfl) hz rfl rfl (by first|exact HS2.out|exact HS1.out|exact HS4.out) ?_);clear hm;intro w hm;simp only [List.set_cons_succ,List.set_set] at hm)))
   go_roundw
   case rel=>exact ⟨4,by omega,rfl,by rw [hl2];exact hm⟩
   case measure=>simp [intOf]
  ·go_wp2_with (first
    |(with_reducible refine gBo ?_;(refine A8 rfl (Zk rfl rfl rfl) ?_)))
   exact xdf
open Go Go.RowKit
variable {col l l2 m:I_} {a b i n p q:Nat}
def Jp (l:I_) (a n:Nat):I_:=seg l a (a+n)
theorem A2p (h:a+n<=l.length) (hi:i < n):gi (Jp l a n) i=gi l (a+i):=by
 simp only [Jp,seg,gi,List.getD];rw [List.getElem?_drop,List.getElem?_take_of_lt (by omega)]
theorem A0d (h:a+n<=l.length):(Jp l a n).length=n:=by simp [Jp,seg];omega
theorem A2Z (hb:Bytes l):Bytes (Jp l a n):=fun x hx=>hb x (List.mem_of_mem_take (List.mem_of_mem_drop hx))
theorem A3J (hl:l.length=m.length) (h:a+n<=l.length) (he:∀ i,a<=i->i < a+n->gi l i=gi m i):Jp l a n=Jp m a n:=by
 apply List.ext_getElem (by rw [A0d h,A0d (by omega)]);intro i h1 h2;rw [A0d h] at h1;rw [<- BZ _ i h2,<- BZ _ i (by rw [A0d h];exact h1),A2p h h1,A2p (by omega) h1];exact he _ (by omega) (by omega)
structure Marks (col:I_) (l l2:I_) (b d q p:Nat):Prop where
 len:l2.length=l.length
 byt:Bytes l2
 out:∀ i,i < b->gi l2 i=gi l i
 word:∀ j c,c < 256->(j < q\/j=q/\c < p)->w32 l2 (b+4 * (256 * j+c)) 4=eqn (col.take ((j+1) * d)) c
theorem Marks.set {d:Nat} (h:Marks col l l2 b d q p) (hp:p < 256) (hf:b+4 * (256 * q+p)+4<=l.length) {v:Int} (hv:v=eqn (col.take ((q+1) * d)) p) (v1:v < 4294967296):Marks col l (stw l2 (b+4 * (256 * q+p)) v 4) b d q (p+1):=by
 have hl:=h.len;refine ⟨by rw [Xd,hl],V8 h.byt 4,fun i hi=>?_,fun j c hc hjc=>?_⟩
 ·exact xhe
 ·by_cases e:j=q/\c=p
  ·obtain ⟨rfl,rfl⟩:=e;rw [yX (by omega) (by rw [hv];exact (Fz _ _).1) v1,hv]
  ·rw [aF (by omega) (by omega)];exact h.word j c hc (by omega)
theorem Marks.up {d:Nat} (h:Marks col l l2 b d q 256):Marks col l l2 b d (q+1) 0 :=
 ⟨h.len,h.byt,h.out,fun j c hc hjc=>h.word j c hc (by omega)⟩
theorem Marks.zero (col l:I_) (hb:Bytes l) (b d:Nat):Marks col l l b d 0 0:=⟨rfl,hb,fun _ _=>rfl,fun j c _ h=>by omega⟩
theorem Zl {P:Program} {w:World} {o:Oper} {a:Act} {x y:Operand} (hu:P.underlying 3=some (.int .i64)) (ho:o.op=.binOp .mul 3 x y 3) {u v z:Int} (hx:a.eval x=.int .i64 u) (hy:a.eval y=.int .i64 v) (hw:IntKind.i64.wrap (u * v)=z):(execOp a.eval o).run P w=.ok (.value (.int .i64 z)) w:=by
 unfold execOp;simp [ho,hx,hy,eqGuard,binOp,Op.intArith,Result.andThen,hw]
theorem A6o (ga gd a n b m d:Nat) (l:I_) (live peak:Int) (w0 w:World) (rs:Rws) (ss:List Sl) (hm:Own w0 w ((ga,AR (.slice (some ⟨gd,0,none⟩) l.length l.length) live peak)::(gd,B l)::rs) ss) (hb:Bytes l) (h:A68 live a n b m d) (h2:live<=l.length) (h3:l.length<=1048576):Calls prog 69 #[.pointer (some ⟨ga,0,none⟩),.agg (SP a n),.agg (SP b m),.int .i64 d] w fun e w'=>(e=.returned (.int .i64 0))/\∃ l2,Marks (Jp l a n) l l2 b d (n / d) 0/\Own w0 w' ((ga,AR (.slice (some ⟨gd,0,none⟩) l.length l.length) live peak)::(gd,B l2)::rs) ss:=by
 have CV:Hid (∀ W,AA W ga (AR (.slice (some ⟨gd,0,none⟩) l.length l.length) live peak)->Calls prog 118 #[.pointer (some ⟨ga,0,none⟩),.agg (SP a n),.agg (SP b m),.int .i64 d] W fun e w'=>(e=.returned (.bool true))/\Below W.heap.size W w'):=h_ fun W hr=>lD ga _ live peak a n b m d h W hr;obtain ⟨n1,n2,d1,d2,ap,fit,big,lim⟩:=h;have hcl:(Jp l a n).length=n:=A0d (by omega);obtain ⟨col,hcol⟩:∃ col,col=Jp l a n:=⟨_,rfl⟩;have hcb:Bytes col:=by rw [hcol];exact A2Z hb
 rw [<- hcol] at hcl ⊢;obtain ⟨q,hq⟩:∃ q:Nat,q=n / d:=⟨_,rfl⟩;rw [<- hq] at big ⊢;obtain ⟨t,ht⟩:∃ t:Nat,t=q * d:=⟨_,rfl⟩;have htn:t<=n:=by rw [ht,hq];exact Nat.div_mul_le_self n d
 have e1:(n:Int).tdiv d=(q:Int):=by rw [hq];rfl
 have e2:(n:Int) / d=(q:Int):=by rw [hq];rfl
 have hqn:q<=n:=by rw [hq];exact Nat.div_le_self n d
 have q0:((d:Int) == 0)=false:=by simp;omega
 have q0b:(d:Int) ≠ 0:=by omega
 have w1:IntKind.i64.wrap (q:Int)=(q:Int):=i_6;have HW2:Hid (IntKind.i64.wrap ((q:Int) * (d:Int))=(t:Int)):=h_ (by rw [show (q:Int) * (d:Int)=((q * d:Nat):Int) by push_cast;rfl,<- ht];exact IntWalk.i64_in _ (by omega));have HT:=h_ ht;clear ht;have HCOL:=h_ hcol;have HQ:=h_ hq;have HCB:=h_ hcb;have HL:=h_ hcl;clear hcol hcb hq hcl;go_enter func69,ntmps69
 go_wp2_with (first
 |(go_at_call 118;refine cB (CV.out _ (hm.row 2 rfl)) hm ?_;clear hm;intro w1 hm)
 |(with_reducible refine wb hm ?_;clear hm;first|(have _t:=g1;intro w g2 hm)|intro w g1 hm)
 |(with_reducible refine wa 115 hm A4Y ?_;clear hm;intro w g9 hm)
 |(with_reducible refine gBo ?_;(refine A8 rfl (Zl underlying3 rfl rfl rfl HW2.out) ?_))
 |(with_reducible (first|refine wl 3 0 hm ?_ (hv:=(by with_unfolding_all (first|exact (SP0 _ _)|exact (SP1 _ _))))|refine wl 3 1 hm ?_ (hv:=(by with_unfolding_all (first|exact (SP0 _ _)|exact (SP1 _ _))))|refine wl 3 2 hm ?_ (hv:=(by with_unfolding_all (first|exact (SP0 _ _)|exact (SP1 _ _))))))
 |(with_reducible (first|refine wla 50 0 hm ?_ (ht:=c_z (Eo _ _))|refine wla 50 1 hm ?_ (ht:=c_z (Eo _ _))|refine wla 50 2 hm ?_ (ht:=c_z (Eo _ _)))))
 have hm0:Own w0 w ((g9,J .i64 (tab 256 (eqn (col.take 0))))::(g2,SP b m)::(g1,SP a n)::(ga,AR (.slice (some ⟨gd,0,none⟩) l.length l.length) live peak)::(gd,B l)::rs) ss:=by
  rw [Gi (f:=eqn (col.take 0)) (g:=fun _=>0) (fun i _=>by simp [eqn])];exact hm
 clear hm;have hm:=hm0;clear hm0;have hz:=Marks.zero col l hb b d;clear hb
 go_loopw [28] (fun u wr=>∃ (k:Nat) (l2:I_),k<=t/\u=.int .i64 k/\Marks col l l2 b d (k / d) 0/\Own w0 wr ((g9,J .i64 (tab 256 (eqn (col.take k))))::(g2,SP b m)::(g1,SP a n)::(ga,AR (.slice (some ⟨gd,0,none⟩) l.length l.length) live peak)::(gd,B l2)::rs) ss) (fun u _=>t - (intOf u).toNat)
 case atStart=>exact ⟨0,l,by omega,rfl,by rw [Nat.zero_div];exact hz,hm⟩
 case round =>
  clear hm hz;obtain ⟨k,l2,hk,rfl,hM,hm⟩:=hrel;by_cases hlt:k < t
  ·have hkn:k < n:=by omega
   have hl2:=hM.len;have hcg:gi l2 (a+k)=gi col k:=by rw [HCOL.out,A2p (by omega) hkn,hM.out _ (by omega)]
   have hs:=HCB.out (gi col k) (by rw [BZ col k (by rw [HL.out];exact hkn)];exact List.getElem_mem _);obtain ⟨c,hc⟩:=Int.eq_ofNat_of_zero_le hs.1;have hc1:c < 256:=by omega
   have CB:Hid (∀ W,AA W ga (AR (.slice (some ⟨gd,0,none⟩) l.length l.length) live peak)->AA W gd (B l2)->Calls prog 116 #[.pointer (some ⟨ga,0,none⟩),.agg (SP a n),.int .i64 k] W fun e w'=>(e=.returned (.tuple #[.int .u8 c,.bool true]))/\Below W.heap.size W w'):=h_ fun W h3 h4=>by
    have:=A0G ga gd a n k l2 live peak W (by rw [hl2];exact h3) h4 (by omega) (by omega) (by omega) hkn;rwa [hcg,hc] at this
   have hbd:=Fz (col.take k) c;have hlt2:=List.length_take_le' k col;rw [HL.out] at hlt2;have w3:IntKind.i64.wrap (eqn (col.take k) c+1)=eqn (col.take k) c+1:=i_6;have HG:=h_ (PU .i64 (eqn (col.take k)) hc1)
   have HP:=h_ (kH .i64 (n:=256) (eqn (col.take k)) (eqn (col.take (k+1))) c (eqn (col.take k) c+1) (fun j _=>by
    rw [Jm col k (by rw [HL.out];exact hkn),hc];by_cases e:j=c
    ·subst e;simp
    ·rw [if_neg e,if_neg (by omega),Int.add_zero]))
   have HSZ:Hid (c < (J .i64 (tab 256 (eqn (col.take k)))).size):=h_ (by rw [Df,Lm];exact hc1);have HM:=h_ hM
   have hbd2:∀ j,0<=eqn (col.take (k+1)) j/\eqn (col.take (k+1)) j < 4294967296:=fun j=>by
    have h5:=Fz (col.take (k+1)) j;have h6:=List.length_take_le' (k+1) col;rw [HL.out] at h6;omega
   have HBD:=h_ hbd2;have HAG:=h_ (A4Q (eqn (col.take (k+1))));have HAT:Hid (∀ p,p < 256->(J .i64 (tab 256 (eqn (col.take (k+1)))))[p]?=some (.int .i64 (eqn (col.take (k+1)) p))):=h_ fun p hp=>PU .i64 _ hp;obtain ⟨r,hr⟩:∃ r:Nat,r=(k+1) % d:=⟨_,rfl⟩;have e6:((k:Int)+1) % (d:Int)=(r:Int):=by rw [hr];push_cast;rfl
   have e7:((k:Int)+1).tmod (d:Int)=(r:Int):=by rw [hr];rfl
   have w4:IntKind.i64.wrap (r:Int)=(r:Int):=IntWalk.i64_in _ (by have:=Nat.mod_lt (k+1) (show 0 < d by omega);omega);clear hs hc hbd hlt2 hcg hM hbd2;generalize eqn (col.take k) c=y at *;generalize hT1:tab 256 (eqn (col.take k))=T1 at *;generalize hT2:tab 256 (eqn (col.take (k+1)))=T2 at *;by_cases hr0:r=0
   ·have hr1:((r:Int) != 0)=false:=by simp;omega
    have hr2:((r:Int) == 0)=true:=by simp;omega
    obtain ⟨q',hq'⟩:∃ q':Nat,q'=k / d:=⟨_,rfl⟩;have hq1:(k+1) / d=q'+1:=by rw [Nat.succ_div,if_pos (Nat.dvd_of_mod_eq_zero (by rw [<- hr,hr0])),hq']
    have hqd:(q'+1) * d=k+1:=by rw [<- hq1];exact Nat.div_mul_cancel (Nat.dvd_of_mod_eq_zero (by rw [<- hr,hr0]))
    have hqq:q' < q:=by
     have h8:(q'+1) * d<=q * d:=by rw [hqd,<- HT.out];exact hlt
     have h9:=Nat.le_of_mul_le_mul_right h8 (by omega);omega
    have e8:((k:Int)+1) / (d:Int)=(q':Int)+1:=by rw [show ((k:Int)+1) / (d:Int)=(((k+1) / d:Nat):Int) by push_cast;rfl,hq1];push_cast;rfl
    have e9:((k:Int)+1).tdiv (d:Int)=(q':Int)+1:=by rw [show ((k:Int)+1).tdiv (d:Int)=(((k+1) / d:Nat):Int) by rfl,hq1];push_cast;rfl
    have w5:IntKind.i64.wrap ((q':Int)+1)=(q':Int)+1:=i_6;have w6:IntKind.i64.wrap ((q':Int)+1 - 1)=(q':Int):=by rw [IntWalk.i64_in _ (by omega)];omega
    have w7:IntKind.i64.wrap ((q':Int) * 256)=(q':Int) * 256:=i_6;have hMq:=HM.out;rw [<- hq'] at hMq
    have CS:Hid (∀ (W:World) (l3:I_) (p:Nat),p < 256->l3.length=l.length->Own w0 W ((g9,J .i64 T2)::(g2,SP b m)::(g1,SP a n)::(ga,AR (.slice (some ⟨gd,0,none⟩) l.length l.length) live peak)::(gd,B l3)::rs) ss->Calls prog 68 #[.pointer (some ⟨ga,0,none⟩),.agg (SP b m),.int .i64 ((q':Int) * 256+p),.int .u32 (eqn (col.take (k+1)) p)] W fun e w'=>(e=.returned (.bool true))/\Own w0 w' ((g9,J .i64 T2)::(g2,SP b m)::(g1,SP a n)::(ga,AR (.slice (some ⟨gd,0,none⟩) l.length l.length) live peak)::(gd,B (stw l3 (b+4 * (256 * q'+p)) (eqn (col.take (k+1)) p) 4))::rs) ss):=h_ fun W l3 p hp hl3 hW=>by
     have hx:=A3V ga gd b m (256 * q'+p) l3 (eqn (col.take (k+1)) p) live peak w0 W _ ss 3 4 hW (by rw [hl3];rfl) rfl (by omega) (by omega) (by omega) (by omega) (HBD.out p).1 (HBD.out p).2 (by decide);rw [show (((256 * q'+p:Nat)):Int)=(q':Int) * 256+p by push_cast;omega] at hx;exact hx
    have HQD:=h_ hqd;have HQ1:=h_ hq1;clear hr hr0 hq1 hq' hqd
    go_wp2_with (first
     |(go_at_call 116;refine cB (CB.out _ (hm.row 3 rfl) (hm.row 4 rfl)) hm ?_;clear hm;intro w1 hm)
     |(with_reducible first|(refine wl 3 0 hm ?_ (hv:=c_z HG.out))|(refine wla 115 0 hm ?_ (ht:=c_z HAG.out))|(refine wla 50 2 hm ?_ (ht:=c_z (Eo _ _)))|(refine wc 3 0 hm ?_ (hf:=c_z HSZ.out) (hn:=c_z HP.out);clear hm;intro w hm)))
    go_loopw [55] (fun u wr=>∃ (p:Nat) (l3:I_),p<=256/\u=.int .i64 p/\Marks col l l3 b d q' p/\Own w0 wr ((g9,J .i64 T2)::(g2,SP b m)::(g1,SP a n)::(ga,AR (.slice (some ⟨gd,0,none⟩) l.length l.length) live peak)::(gd,B l3)::rs) ss) (fun u _=>256 - (intOf u).toNat)
    case atStart=>exact ⟨0,l2,by omega,rfl,hMq,hm⟩
    case round =>
     clear hm hMq;obtain ⟨p,l3,hp,rfl,hM3,hm⟩:=hrel;by_cases hlt3:p < 256
     ·have hat:=HAT.out p hlt3;have hl3:=hM3.len;have hbp:=HBD.out p;have w8:IntKind.u32.wrap (eqn (col.take (k+1)) p)=eqn (col.take (k+1)) p:=IntWalk.u32_in _ (by omega);have w9:IntKind.i64.wrap ((q':Int) * 256+p)=(q':Int) * 256+p:=i_6;have HM4:Hid (Marks col l (stw l3 (b+4 * (256 * q'+p)) (eqn (col.take (k+1)) p) 4) b d q' (p+1)):=h_ (hM3.set hlt3 (by omega) (by rw [HQD.out]) hbp.2);clear hM3 hbp
      go_wp2_with (first
       |(go_at_call 68;have _t:=hm;refine (CS.out _ l3 p hlt3 hl3 hm).mono ?_;clear _t hm;rintro e w ⟨rfl,hm⟩)
       |(with_reducible refine gIx ?_;(refine A8 rfl (DZ rfl rfl rfl underlying115 BG hlt3 hat) ?_))
       |(with_reducible refine wla 50 1 hm ?_ (ht:=c_z (Eo _ _))))
      go_roundw
      case rel=>exact ⟨p+1,_,by omega,by go_num,HM4.out,hm⟩
      case measure=>simp [intOf];omega
     ·obtain rfl:p=256:=by omega
      have HM4:=h_ hM3.up;clear hM3;go_wp2;go_roundw
      case rel=>exact ⟨k+1,l3,by omega,by go_num,by rw [HQ1.out];exact HM4.out,by rw [hT2];exact hm⟩
      case measure=>simp [intOf];omega
   ·have hr1:((r:Int) != 0)=true:=by simp;omega
    have hr2:((r:Int) == 0)=false:=by simp;omega
    have HD2:Hid ((k+1) / d=k / d):=h_ (by rw [Nat.succ_div,if_neg (fun h=>hr0 (by rw [hr];exact Nat.mod_eq_zero_of_dvd h)),Nat.add_zero]);clear hr
    go_wp2_with (first
     |(go_at_call 116;refine cB (CB.out _ (hm.row 3 rfl) (hm.row 4 rfl)) hm ?_;clear hm;intro w1 hm)
     |(with_reducible first|(refine wl 3 0 hm ?_ (hv:=c_z HG.out))|(refine wla 115 0 hm ?_ (ht:=c_z HAG.out))|(refine wla 50 2 hm ?_ (ht:=c_z (Eo _ _)))|(refine wc 3 0 hm ?_ (hf:=c_z HSZ.out) (hn:=c_z HP.out);clear hm;intro w hm)))
    go_roundw
    case rel=>exact ⟨k+1,l2,by omega,by go_num,by rw [HD2.out];exact HM.out,by rw [hT2];exact hm⟩
    case measure=>simp [intOf];omega
  ·obtain rfl:t=k:=by omega
   have htq:t / d=q:=by rw [HT.out];exact Nat.mul_div_cancel q (by omega)
   rw [htq] at hM;have HM:=h_ hM;clear hM htq;generalize tab 256 (eqn (col.take t))=T1 at *;go_wp2;go_ret;exact ⟨rfl,l2,HM.out,hm.dropRow.dropRow.dropRow⟩
structure A0Y (l:I_) (a n b d:Nat):Prop where
 byt:Bytes l
 word:∀ j c,c < 256->j < n / d->w32 l (b+4 * (256 * j+c)) 4=eqn ((Jp l a n).take ((j+1) * d)) c
theorem Marks.A6H {l l2:I_} {a n b d:Nat} (h:Marks (Jp l a n) l l2 b d (n / d) 0) (hf:a+n<=l.length) (hb:a+n<=b):A0Y l2 a n b d/\Jp l2 a n=Jp l a n:=by
 have he:Jp l2 a n=Jp l a n:=A3J h.len (by rw [h.len];exact hf) (fun i _ h2=>h.out i (by omega));exact ⟨⟨h.byt,fun j c hc hj=>by rw [he];exact h.word j c hc (.inl hj)⟩,he⟩
theorem sN (ga gd a n b m d c place:Nat) (l:I_) (live peak:Int) (w0:World) (hr:AA w0 ga (AR (.slice (some ⟨gd,0,none⟩) l.length l.length) live peak)) (hd:AA w0 gd (B l)) (hS:A0Y l a n b d) (h:A68 live a n b m d) (h2:live<=l.length) (h3:l.length<=1048576) (hc:c < 256) (hp:place<=n):Calls prog 70 #[.pointer (some ⟨ga,0,none⟩),.agg (SP a n),.agg (SP b m),.int .i64 d,.int .u8 c,.int .i64 place] w0 (RB w0 (.tuple #[.int .i64 (eqn ((Jp l a n).take place) c),.int .i64 ((place % d:Nat):Int),.bool true])):=by
 have CV:Hid (∀ W,Below w0.heap.size w0 W->Calls prog 118 #[.pointer (some ⟨ga,0,none⟩),.agg (SP a n),.agg (SP b m),.int .i64 d] W fun e w'=>(e=.returned (.bool true))/\Below W.heap.size W w'):=h_ fun W hW=>lD ga _ live peak a n b m d h W (hr.keep W hW);obtain ⟨n1,n2,d1,d2,ap,fit,big,lim⟩:=h;have HL:Hid ((Jp l a n).length=n):=h_ (A0d (by omega));have HCG:Hid (∀ i,i < n->gi (Jp l a n) i=gi l (a+i)):=h_ fun i hi=>A2p (by omega) hi;have HBY:=h_ (hS.byt);obtain ⟨q,hq⟩:∃ q:Nat,q=place / d:=⟨_,rfl⟩;obtain ⟨t,ht⟩:∃ t:Nat,t=q * d:=⟨_,rfl⟩;have htp:t<=place:=by rw [ht,hq];exact Nat.div_mul_le_self place d
 have hr0:place % d=place - t:=by rw [ht,hq];have:=Nat.div_add_mod place d;rw [Nat.mul_comm] at this;omega
 have e1:(place:Int).tdiv d=(q:Int):=by rw [hq];rfl
 have e2:(place:Int) / d=(q:Int):=by rw [hq];rfl
 have hqn:q<=place:=by rw [hq];exact Nat.div_le_self place d
 have hqd:q<=n / d:=by rw [hq];exact Nat.div_le_div_right hp
 have CW:Hid (∀ W,Below w0.heap.size w0 W->0 < q->Calls prog 120 #[.pointer (some ⟨ga,0,none⟩),.agg (SP b m),.int .i64 (((q:Int) - 1) * 256+c)] W fun e w'=>(e=.returned (.tuple #[.int .u32 (eqn ((Jp l a n).take t) c),.bool true]))/\Below W.heap.size W w'):=h_ fun W hW hq0=>by
  have hx:=dW ga gd b m (256 * (q - 1)+c) l live peak W (hr.keep W hW) (hd.keep W hW) hS.byt (by omega) h2 h3 (by omega);rw [hS.word (q - 1) c hc (by omega),show q - 1+1=q by omega,<- ht] at hx;rw [show ((q:Int) - 1) * 256+c=((256 * (q - 1)+c:Nat):Int) by omega];exact hx
 have CB:Hid (∀ W (i:Nat),Below w0.heap.size w0 W->i < n->Calls prog 116 #[.pointer (some ⟨ga,0,none⟩),.agg (SP a n),.int .i64 i] W fun e w'=>(e=.returned (.tuple #[.int .u8 (gi (Jp l a n) i),.bool true]))/\Below W.heap.size W w'):=h_ fun W i hW hi=>by
  have:=A0G ga gd a n i l live peak W (hr.keep W hW) (hd.keep W hW) (by omega) h2 h3 hi;rwa [<- HCG.out i hi] at this
 have q0:((d:Int) == 0)=false:=by simp;omega
 have q0b:(d:Int) ≠ 0:=by omega
 have w1:IntKind.i64.wrap (q:Int)=(q:Int):=i_6;have HW2:Hid (IntKind.i64.wrap ((q:Int) * (d:Int))=(t:Int)):=h_ (by rw [show (q:Int) * (d:Int)=((q * d:Nat):Int) by push_cast;rfl,<- ht];exact IntWalk.i64_in _ (by omega));have w3:wi place 0 n=true:=Eu (by omega) (by omega);have HR0:=h_ hr0;have HT0:Hid (q=0->t=0):=h_ (fun h=>by rw [ht,h,Nat.zero_mul]);clear hr hd hS hq ht hr0 hqd big HCG;generalize Jp l a n=col at *;by_cases hq0:q=0
 ·subst hq0;have HT1:Hid (t=0):=h_ (HT0.out rfl);clear HT0;go_enter func70,ntmps70;have hm:=Own.nil w0
  go_wp2_with (first
  |(go_at_call 118;refine cB (CV.out _ hm.below) hm ?_;clear hm;intro w1 hm)
  |(go_at_call 119;refine (QK _ _ _ _).mono ?_;rintro e w1 ⟨rfl,rfl⟩)
  |(with_reducible refine wb hm ?_;clear hm;first|(have _t:=g1;intro w g2 hm)|intro w g1 hm)
  |(with_reducible refine gBo ?_;(refine A8 rfl (Zl underlying3 rfl rfl rfl HW2.out) ?_))
  |(with_reducible (first|refine wl 3 0 hm ?_ (hv:=(by with_unfolding_all (first|exact (SP0 _ _)|exact (SP1 _ _))))|refine wl 3 1 hm ?_ (hv:=(by with_unfolding_all (first|exact (SP0 _ _)|exact (SP1 _ _))))))
  |(with_reducible (first|refine wla 50 0 hm ?_ (ht:=c_z (Eo _ _))|refine wla 50 1 hm ?_ (ht:=c_z (Eo _ _)))))
  go_loopw [12,13,18] (fun z y u wr=>∃ i:Nat,t<=i/\i<=place/\u=.int .i64 i/\z=.int .i64 (eqn (col.take i) c)/\y=.int .i64 ((i - t:Nat):Int)/\Own w0 wr [(g2,SP b m),(g1,SP a n)] []) (fun _ _ u _=>place - (intOf u).toNat)
  case atStart=>exact ⟨t,Nat.le_refl _,htp,rfl,by rw [HT1.out];simp [eqn],by rw [Nat.sub_self];rfl,hm⟩
  case round =>
   exact xam
 ·have hqp:0 < q:=by omega
  have p0:decide ((0:Int) < (q:Int))=true:=d_t;have p00:decide (0 < q)=true:=decide_eq_true hqp;have w6:IntKind.i64.wrap ((q:Int) - 1)=(q:Int) - 1:=i_6;have w7:IntKind.i64.wrap (((q:Int) - 1) * 256)=((q:Int) - 1) * 256:=i_6;have w8:IntKind.i64.wrap (((q:Int) - 1) * 256+c)=((q:Int) - 1) * 256+c:=i_6;have w9:IntKind.i64.wrap (c:Int)=c:=i_6;have CW1:Hid (∀ W,Below w0.heap.size w0 W->Calls prog 120 #[.pointer (some ⟨ga,0,none⟩),.agg (SP b m),.int .i64 (((q:Int) - 1) * 256+c)] W fun e w'=>(e=.returned (.tuple #[.int .u32 (eqn (col.take t) c),.bool true]))/\Below W.heap.size W w'):=h_ fun W h=>CW.out W h hqp;have hbd:=Fz (col.take t) c;have hlt2:=List.length_take_le' t col;rw [HL.out] at hlt2
  have w10:IntKind.i64.wrap (eqn (col.take t) c)=eqn (col.take t) c:=i_6;have HZ:Hid (eqn (col.take t) c=eqn (col.take t) c):=h_ rfl;clear hbd hlt2;go_enter func70,ntmps70;have hm:=Own.nil w0
  go_wp2_with (first
   |(go_at_call 118;refine cB (CV.out _ hm.below) hm ?_;clear hm;intro w1 hm)
   |(go_at_call 120;refine cB (CW1.out _ hm.below) hm ?_;clear hm;intro w1 hm)
   |(go_at_call 119;refine (QK _ _ _ _).mono ?_;rintro e w1 ⟨rfl,rfl⟩)
   |(with_reducible refine wb hm ?_;clear hm;first|(have _t:=g1;intro w g2 hm)|intro w g1 hm)
   |(with_reducible refine gBo ?_;(refine A8 rfl (Zl underlying3 rfl rfl rfl HW2.out) ?_))
   |(with_reducible (first|refine wl 3 0 hm ?_ (hv:=(by with_unfolding_all (first|exact (SP0 _ _)|exact (SP1 _ _))))|refine wl 3 1 hm ?_ (hv:=(by with_unfolding_all (first|exact (SP0 _ _)|exact (SP1 _ _))))))
   |(with_reducible (first|refine wla 50 0 hm ?_ (ht:=c_z (Eo _ _))|refine wla 50 1 hm ?_ (ht:=c_z (Eo _ _)))))
  go_loopw [12,13,18] (fun z y u wr=>∃ i:Nat,t<=i/\i<=place/\u=.int .i64 i/\z=.int .i64 (eqn (col.take i) c)/\y=.int .i64 ((i - t:Nat):Int)/\Own w0 wr [(g2,SP b m),(g1,SP a n)] []) (fun _ _ u _=>place - (intOf u).toNat)
  case atStart=>exact ⟨t,Nat.le_refl _,htp,rfl,rfl,by rw [Nat.sub_self];rfl,hm⟩
  case round =>
   exact xam
variable {ds la ln mb mn:Int} {less:I_}
def WK (pa:Value) (la:Int) (ln:Int) (mb:Int) (mn:Int) (ix:Int) (ds:Int) (less:I_) (row:Int) (told:Int) (st:Int):A_:=([pa,Value.int .i64 la,.int .i64 ln,Value.int .i64 mb,.int .i64 mn,Value.int .i64 ix,.int .i64 ds]++(vs .i64 less++([Value.int .i64 row,.int .i64 told,.int .i64 st]))).toArray
theorem A37 {pa:Value} {ix:Int} {row:Int} {told:Int} {st:Int} (hless:less.length=256):(WK pa la ln mb mn ix ds less row told st).size=266:=by simp [WK,Ai,hless]
theorem A3E {pa:Value} {ix:Int} {row:Int} {told:Int} {st:Int} :(WK pa la ln mb mn ix ds less row told st)[0]?=some (pa):=rfl
theorem A63 {pa:Value} {ix:Int} {row:Int} {told:Int} {st:Int}  (x:Value):(WK pa la ln mb mn ix ds less row told st).setIfInBounds 0 (x)=WK x la ln mb mn ix ds less row told st:=rfl
theorem A4b {pa:Value} {ix:Int} {row:Int} {told:Int} {st:Int} :(WK pa la ln mb mn ix ds less row told st)[2]?=some (Value.int .i64 ln):=rfl
theorem A3j {pa:Value} {ix:Int} {row:Int} {told:Int} {st:Int} :(WK pa la ln mb mn ix ds less row told st)[5]?=some (Value.int .i64 ix):=rfl
theorem A64 {pa:Value} {ix:Int} {row:Int} {told:Int} {st:Int}  (x:Int):(WK pa la ln mb mn ix ds less row told st).setIfInBounds 5 (Value.int .i64 x)=WK pa la ln mb mn x ds less row told st:=rfl
theorem A4T {pa:Value} {ix:Int} {row:Int} {told:Int} {st:Int} :(WK pa la ln mb mn ix ds less row told st)[6]?=some (Value.int .i64 ds):=rfl
theorem A65 {pa:Value} {ix:Int} {row:Int} {told:Int} {st:Int}  (x:Int):(WK pa la ln mb mn ix ds less row told st).setIfInBounds 6 (Value.int .i64 x)=WK pa la ln mb mn ix x less row told st:=rfl
theorem A4c {pa:Value} {ix:Int} {row:Int} {told:Int} {st:Int}  (hless:less.length=256) (i:Nat) (hi:i < 256):(WK pa la ln mb mn ix ds less row told st)[7+i]?=some (.int .i64 (gi less i)):=by
 rw [show WK pa la ln mb mn ix ds less row told st=(([pa,Value.int .i64 la,.int .i64 ln,Value.int .i64 mb,.int .i64 mn,Value.int .i64 ix,.int .i64 ds])++((vs .i64 less)++([Value.int .i64 row,.int .i64 told,.int .i64 st]))).toArray by simp [WK,l_a]];have h:=UL (P:=([pa,Value.int .i64 la,.int .i64 ln,Value.int .i64 mb,.int .i64 mn,Value.int .i64 ix,.int .i64 ds])) (off:=7) (S:=([Value.int .i64 row,.int .i64 told,.int .i64 st])) (by simp [Ai]) (Fg .i64 less i (by omega));exact h
theorem A4R {pa:Value} {ix:Int} {row:Int} {told:Int} {st:Int}  (hless:less.length=256) (i:Nat) (hi:i < 256) (x:Int):(WK pa la ln mb mn ix ds less row told st).setIfInBounds (7+i) (.int .i64 x)=WK pa la ln mb mn ix ds (less.set i x) row told st:=by
 rw [show WK pa la ln mb mn ix ds less row told st=(([pa,Value.int .i64 la,.int .i64 ln,Value.int .i64 mb,.int .i64 mn,Value.int .i64 ix,.int .i64 ds])++((vs .i64 less)++([Value.int .i64 row,.int .i64 told,.int .i64 st]))).toArray by simp [WK,l_a]];have h:=Y1 (P:=([pa,Value.int .i64 la,.int .i64 ln,Value.int .i64 mb,.int .i64 mn,Value.int .i64 ix,.int .i64 ds])) (off:=7) (S:=([Value.int .i64 row,.int .i64 told,.int .i64 st])) (by simp [Ai]) (show i < (vs .i64 less).length by rw [Ai];omega) (.int .i64 x);rw [aK] at h
 skip
 rw [h];simp [WK,l_a]
theorem A66 {pa:Value} {ix:Int} {row:Int} {told:Int} {st:Int} (hless:less.length=256):(WK pa la ln mb mn ix ds less row told st)[263]?=some (Value.int .i64 row):=by
 rw [show WK pa la ln mb mn ix ds less row told st=(([pa,Value.int .i64 la,.int .i64 ln,Value.int .i64 mb,.int .i64 mn,Value.int .i64 ix,.int .i64 ds]++vs .i64 less)++(([Value.int .i64 row,.int .i64 told,.int .i64 st])++[])).toArray by simp [WK,l_a]];exact UL (P:=([pa,Value.int .i64 la,.int .i64 ln,Value.int .i64 mb,.int .i64 mn,Value.int .i64 ix,.int .i64 ds]++vs .i64 less)) (off:=263) (i:=0) (S:=[]) (by simp [Ai,hless]) rfl
theorem A48 {pa:Value} {ix:Int} {row:Int} {told:Int} {st:Int} (hless:less.length=256) (x:Int):(WK pa la ln mb mn ix ds less row told st).setIfInBounds 263 (Value.int .i64 x)=WK pa la ln mb mn ix ds less x told st:=by
 rw [show WK pa la ln mb mn ix ds less row told st=(([pa,Value.int .i64 la,.int .i64 ln,Value.int .i64 mb,.int .i64 mn,Value.int .i64 ix,.int .i64 ds]++vs .i64 less)++(([Value.int .i64 row,.int .i64 told,.int .i64 st])++[])).toArray by simp [WK,l_a]];have h:=Y1 (P:=([pa,Value.int .i64 la,.int .i64 ln,Value.int .i64 mb,.int .i64 mn,Value.int .i64 ix,.int .i64 ds]++vs .i64 less)) (off:=263) (i:=0) (S:=[]) (by simp [Ai,hless]) (show 0 < ([Value.int .i64 row,.int .i64 told,.int .i64 st]).length by simp) (Value.int .i64 x);rw [h];simp [WK,l_a]
theorem A4p {pa:Value} {ix:Int} {row:Int} {told:Int} {st:Int} (hless:less.length=256):263 < (WK pa la ln mb mn ix ds less row told st).size:=by rw [A37 hless];omega
theorem A3p {pa:Value} {ix:Int} {row:Int} {told:Int} {st:Int} (hless:less.length=256):(WK pa la ln mb mn ix ds less row told st)[264]?=some (Value.int .i64 told):=by
 rw [show WK pa la ln mb mn ix ds less row told st=(([pa,Value.int .i64 la,.int .i64 ln,Value.int .i64 mb,.int .i64 mn,Value.int .i64 ix,.int .i64 ds]++vs .i64 less)++(([Value.int .i64 row,.int .i64 told,.int .i64 st])++[])).toArray by simp [WK,l_a]];exact UL (P:=([pa,Value.int .i64 la,.int .i64 ln,Value.int .i64 mb,.int .i64 mn,Value.int .i64 ix,.int .i64 ds]++vs .i64 less)) (off:=263) (i:=1) (S:=[]) (by simp [Ai,hless]) rfl
theorem A3O {pa:Value} {ix:Int} {row:Int} {told:Int} {st:Int} (hless:less.length=256) (x:Int):(WK pa la ln mb mn ix ds less row told st).setIfInBounds 264 (Value.int .i64 x)=WK pa la ln mb mn ix ds less row x st:=by
 rw [show WK pa la ln mb mn ix ds less row told st=(([pa,Value.int .i64 la,.int .i64 ln,Value.int .i64 mb,.int .i64 mn,Value.int .i64 ix,.int .i64 ds]++vs .i64 less)++(([Value.int .i64 row,.int .i64 told,.int .i64 st])++[])).toArray by simp [WK,l_a]];have h:=Y1 (P:=([pa,Value.int .i64 la,.int .i64 ln,Value.int .i64 mb,.int .i64 mn,Value.int .i64 ix,.int .i64 ds]++vs .i64 less)) (off:=263) (i:=1) (S:=[]) (by simp [Ai,hless]) (show 1 < ([Value.int .i64 row,.int .i64 told,.int .i64 st]).length by simp) (Value.int .i64 x);rw [h];simp [WK,l_a]
theorem A49 {pa:Value} {ix:Int} {row:Int} {told:Int} {st:Int} (hless:less.length=256):264 < (WK pa la ln mb mn ix ds less row told st).size:=by rw [A37 hless];omega
theorem A4a {pa:Value} {ix:Int} {row:Int} {told:Int} {st:Int} (hless:less.length=256):(WK pa la ln mb mn ix ds less row told st)[265]?=some (Value.int .i64 st):=by
 rw [show WK pa la ln mb mn ix ds less row told st=(([pa,Value.int .i64 la,.int .i64 ln,Value.int .i64 mb,.int .i64 mn,Value.int .i64 ix,.int .i64 ds]++vs .i64 less)++(([Value.int .i64 row,.int .i64 told,.int .i64 st])++[])).toArray by simp [WK,l_a]];exact UL (P:=([pa,Value.int .i64 la,.int .i64 ln,Value.int .i64 mb,.int .i64 mn,Value.int .i64 ix,.int .i64 ds]++vs .i64 less)) (off:=263) (i:=2) (S:=[]) (by simp [Ai,hless]) rfl
theorem A4o {pa:Value} {ix:Int} {row:Int} {told:Int} {st:Int} (hless:less.length=256) (x:Int):(WK pa la ln mb mn ix ds less row told st).setIfInBounds 265 (Value.int .i64 x)=WK pa la ln mb mn ix ds less row told x:=by
 rw [show WK pa la ln mb mn ix ds less row told st=(([pa,Value.int .i64 la,.int .i64 ln,Value.int .i64 mb,.int .i64 mn,Value.int .i64 ix,.int .i64 ds]++vs .i64 less)++(([Value.int .i64 row,.int .i64 told,.int .i64 st])++[])).toArray by simp [WK,l_a]];have h:=Y1 (P:=([pa,Value.int .i64 la,.int .i64 ln,Value.int .i64 mb,.int .i64 mn,Value.int .i64 ix,.int .i64 ds]++vs .i64 less)) (off:=263) (i:=2) (S:=[]) (by simp [Ai,hless]) (show 2 < ([Value.int .i64 row,.int .i64 told,.int .i64 st]).length by simp) (Value.int .i64 x);rw [h];simp [WK,l_a]
theorem A4S {pa:Value} {ix:Int} {row:Int} {told:Int} {st:Int} (hless:less.length=256):265 < (WK pa la ln mb mn ix ds less row told st).size:=by rw [A37 hless];omega
variable {ds la ln mb mn:Int} {less:I_}
theorem A4v {pa:Value} {ix:Int} {row told st:Int}:(WK pa la ln mb mn ix ds less row told st).extract 1 (1+(SP la ln).size)=SP la ln:=by
 show ([pa]++([Value.int .i64 la,.int .i64 ln]++([Value.int .i64 mb,.int .i64 mn,.int .i64 ix,.int .i64 ds]++(vs .i64 less++[Value.int .i64 row,.int .i64 told,.int .i64 st])))).toArray.extract 1 (1+2)=_;exact Xl rfl rfl
theorem A6z {pa:Value} {ix:Int} {row told st:Int}:(WK pa la ln mb mn ix ds less row told st).extract 3 (3+(SP mb mn).size)=SP mb mn:=by
 show ([pa,Value.int .i64 la,.int .i64 ln]++([Value.int .i64 mb,.int .i64 mn]++([Value.int .i64 ix,.int .i64 ds]++(vs .i64 less++[Value.int .i64 row,.int .i64 told,.int .i64 st])))).toArray.extract 3 (3+2)=_;exact Xl rfl rfl
theorem A3R {pa:Value} {ix:Int} {row told st:Int} (h:less.length=256):1+(SP la ln).size<=(WK pa la ln mb mn ix ds less row told st).size:=by rw [A37 h];show 1+2<=266;omega
theorem A5z {pa:Value} {ix:Int} {row told st:Int} (h:less.length=256):3+(SP mb mn).size<=(WK pa la ln mb mn ix ds less row told st).size:=by rw [A37 h];show 3+2<=266;omega
structure A47 (l:I_) (live:Int) (a n b m d index:Nat):Prop where
 rk:A68 live a n b m d
 sm:A0Y l a n b d
 lim:live<=l.length
 big:l.length<=1048576
 i1:1<=index
 i2:index<=n
abbrev A33 (ga:Nat) (l:I_) (a n b m d index:Nat) (row told st:Int):A_:=WK (.pointer (some ⟨ga,0,none⟩)) a n b m index d (tab 256 (lsn (Jp l a n))) row told st
theorem A4w (gw ga gd a n b m d index:Nat) (l:I_) (row told st live peak:Int) (r:Nat) (w0 w:World) (rs:Rws) (ss:List Sl) (hm:Own w0 w ((gw,A33 ga l a n b m d index row told st)::(ga,AR (.slice (some ⟨gd,0,none⟩) l.length l.length) live peak)::(gd,B l)::rs) ss) (h:A47 l live a n b m d index) (hr:r<=n) (s0:0<=st) (s1:st<=1000000000000000) (he:r=index):Calls prog 74 #[.pointer (some ⟨gw,0,none⟩),.int .i64 r] w fun e w'=>(e=.returned (.tuple #[.int .i64 0,.int .u8 0,.bool false]))/\Own w0 w' ((gw,A33 ga l a n b m d index row told st)::(ga,AR (.slice (some ⟨gd,0,none⟩) l.length l.length) live peak)::(gd,B l)::rs) ss:=by
 obtain ⟨hk,hS,lim,big,i1,i2⟩:=h;have hn2:=hk.n2;subst he;clear hk hS lim big i1 i2 hr s0 s1;rw [A33] at hm;go_enter func74,ntmps74
 go_wp2_with (first
  |(with_reducible refine wl 3 0 hm ?_ (hv:=c_z A3j)))
 refine b_r (results_tmp3 rfl _ _ _) rfl ⟨rfl,?_⟩;exact hm
theorem A4Z (gw ga gd a n b m d index:Nat) (l:I_) (row told st live peak:Int) (r:Nat) (w0 w:World) (rs:Rws) (ss:List Sl) (hm:Own w0 w ((gw,A33 ga l a n b m d index row told st)::(ga,AR (.slice (some ⟨gd,0,none⟩) l.length l.length) live peak)::(gd,B l)::rs) ss) (h:A47 l live a n b m d index) (hr:r<=n) (s0:0<=st) (s1:st<=1000000000000000) (p:Nat) (hp:p=r) (hlt:r < index):Calls prog 74 #[.pointer (some ⟨gw,0,none⟩),.int .i64 r] w fun e w'=>(e=.returned (.tuple #[.int .i64 (aft (Jp l a n) p),.int .u8 (gi (Jp l a n) p),.bool true]))/\Own w0 w' ((gw,A33 ga l a n b m d index row told (st+(1+((p % d:Nat):Int))))::(ga,AR (.slice (some ⟨gd,0,none⟩) l.length l.length) live peak)::(gd,B l)::rs) ss:=by
 obtain ⟨hk,hS,lim,big,i1,i2⟩:=h;have hn2:=hk.n2;have hal:a+n<=l.length:=by have:=hk.ap;have:=hk.fit;omega
 have hal2:(a:Int)+n<=live:=by have:=hk.ap;have:=hk.fit;omega
 have hcl:(Jp l a n).length=n:=A0d hal;have hcb:Bytes (Jp l a n):=A2Z hS.byt;have hs:=hcb (gi (Jp l a n) p) (by rw [BZ _ p (by omega)];exact List.getElem_mem _);obtain ⟨c,hc⟩:=Int.eq_ofNat_of_zero_le hs.1;have hc1:c < 256:=by omega
 have CB:Hid (∀ W,AA W ga (AR (.slice (some ⟨gd,0,none⟩) l.length l.length) live peak)->AA W gd (B l)->Calls prog 116 #[.pointer (some ⟨ga,0,none⟩),.agg (SP a n),.int .i64 p] W fun e w'=>(e=.returned (.tuple #[.int .u8 c,.bool true]))/\Below W.heap.size W w'):=h_ fun W h3 h4=>by have:=A0G ga gd a n p l live peak W h3 h4 hal2 lim big (by omega);rwa [<- A2p hal (by omega),hc] at this
 have CR:Hid (∀ W,AA W ga (AR (.slice (some ⟨gd,0,none⟩) l.length l.length) live peak)->AA W gd (B l)->Calls prog 70 #[.pointer (some ⟨ga,0,none⟩),.agg (SP a n),.agg (SP b m),.int .i64 d,.int .u8 c,.int .i64 p] W fun e w'=>(e=.returned (.tuple #[.int .i64 (eqn ((Jp l a n).take p) c),.int .i64 ((p % d:Nat):Int),.bool true]))/\Below W.heap.size W w'):=h_ fun W h3 h4=>sN ga gd a n b m d c p l live peak W h3 h4 hS hk lim big hc1 (by omega);have HAF:Hid (aft (Jp l a n) p=1+lsn (Jp l a n) c+eqn ((Jp l a n).take p) c):=h_ (by rw [aft,hc,Int.toNat_natCast]);have b1:=Ll (Jp l a n) c;have b2:=Fz ((Jp l a n).take p) c;have b3:=List.length_take_le' p (Jp l a n);have b4:=Nat.mod_lt p (show 0 < d by have:=hk.d1;omega);have b5:=hk.d2;have w1:IntKind.i64.wrap (1+lsn (Jp l a n) c)=1+lsn (Jp l a n) c:=i_6
 have w2:IntKind.i64.wrap (1+lsn (Jp l a n) c+eqn ((Jp l a n).take p) c)=1+lsn (Jp l a n) c+eqn ((Jp l a n).take p) c:=i_6;have HAT:=h_ (PU .i64 (lsn (Jp l a n)) hc1);have hll:(tab 256 (lsn (Jp l a n))).length=256:=Lm _ _;have HLL:=h_ hll;rw [hc,HAF.out];clear hcb hs hc hcl hll i1 b1 b2 b3 HAF;subst hp;have q1:((p:Int) == index)=false:=by simp;omega
 have q2:decide ((index:Int) < p)=false:=d_f;have q3:decide (index < p)=false:=d_f;exact xai
theorem A50 (gw ga gd a n b m d index:Nat) (l:I_) (row told st live peak:Int) (r:Nat) (w0 w:World) (rs:Rws) (ss:List Sl) (hm:Own w0 w ((gw,A33 ga l a n b m d index row told st)::(ga,AR (.slice (some ⟨gd,0,none⟩) l.length l.length) live peak)::(gd,B l)::rs) ss) (h:A47 l live a n b m d index) (hr:r<=n) (s0:0<=st) (s1:st<=1000000000000000) (p:Nat) (hp:r=p+1) (hlt:index < r):Calls prog 74 #[.pointer (some ⟨gw,0,none⟩),.int .i64 r] w fun e w'=>(e=.returned (.tuple #[.int .i64 (aft (Jp l a n) p),.int .u8 (gi (Jp l a n) p),.bool true]))/\Own w0 w' ((gw,A33 ga l a n b m d index row told (st+(1+((p % d:Nat):Int))))::(ga,AR (.slice (some ⟨gd,0,none⟩) l.length l.length) live peak)::(gd,B l)::rs) ss:=by
 obtain ⟨hk,hS,lim,big,i1,i2⟩:=h;have hn2:=hk.n2;have hal:a+n<=l.length:=by have:=hk.ap;have:=hk.fit;omega
 have hal2:(a:Int)+n<=live:=by have:=hk.ap;have:=hk.fit;omega
 have hcl:(Jp l a n).length=n:=A0d hal;have hcb:Bytes (Jp l a n):=A2Z hS.byt;have hs:=hcb (gi (Jp l a n) p) (by rw [BZ _ p (by omega)];exact List.getElem_mem _);obtain ⟨c,hc⟩:=Int.eq_ofNat_of_zero_le hs.1;have hc1:c < 256:=by omega
 have CB:Hid (∀ W,AA W ga (AR (.slice (some ⟨gd,0,none⟩) l.length l.length) live peak)->AA W gd (B l)->Calls prog 116 #[.pointer (some ⟨ga,0,none⟩),.agg (SP a n),.int .i64 p] W fun e w'=>(e=.returned (.tuple #[.int .u8 c,.bool true]))/\Below W.heap.size W w'):=h_ fun W h3 h4=>by have:=A0G ga gd a n p l live peak W h3 h4 hal2 lim big (by omega);rwa [<- A2p hal (by omega),hc] at this
 have CR:Hid (∀ W,AA W ga (AR (.slice (some ⟨gd,0,none⟩) l.length l.length) live peak)->AA W gd (B l)->Calls prog 70 #[.pointer (some ⟨ga,0,none⟩),.agg (SP a n),.agg (SP b m),.int .i64 d,.int .u8 c,.int .i64 p] W fun e w'=>(e=.returned (.tuple #[.int .i64 (eqn ((Jp l a n).take p) c),.int .i64 ((p % d:Nat):Int),.bool true]))/\Below W.heap.size W w'):=h_ fun W h3 h4=>sN ga gd a n b m d c p l live peak W h3 h4 hS hk lim big hc1 (by omega);have HAF:Hid (aft (Jp l a n) p=1+lsn (Jp l a n) c+eqn ((Jp l a n).take p) c):=h_ (by rw [aft,hc,Int.toNat_natCast]);have b1:=Ll (Jp l a n) c;have b2:=Fz ((Jp l a n).take p) c;have b3:=List.length_take_le' p (Jp l a n);have b4:=Nat.mod_lt p (show 0 < d by have:=hk.d1;omega);have b5:=hk.d2;have w1:IntKind.i64.wrap (1+lsn (Jp l a n) c)=1+lsn (Jp l a n) c:=i_6
 have w2:IntKind.i64.wrap (1+lsn (Jp l a n) c+eqn ((Jp l a n).take p) c)=1+lsn (Jp l a n) c+eqn ((Jp l a n).take p) c:=i_6;have HAT:=h_ (PU .i64 (lsn (Jp l a n)) hc1);have hll:(tab 256 (lsn (Jp l a n))).length=256:=Lm _ _;have HLL:=h_ hll;rw [hc,HAF.out];clear hcb hs hc hcl hll i1 b1 b2 b3 HAF;subst hp;have q1:(((p+1:Nat):Int) == index)=false:=by simp;omega
 have q1b:((p:Int)+1 == index)=false:=by simp;omega
 have q2:decide ((index:Int) < ((p+1:Nat):Int))=true:=d_t;have q2b:decide ((index:Int) < (p:Int)+1)=true:=d_t;have q3:decide (index < p+1)=true:=decide_eq_true hlt;have w0b:IntKind.i64.wrap ((p:Int)+1 - 1)=p:=by rw [IntWalk.i64_in _ (by omega)];omega
 exact xai
theorem A3K (gw ga gd a n b m d index:Nat) (l:I_) (row told st live peak:Int) (r:Nat) (w0 w:World) (rs:Rws) (ss:List Sl) (hm:Own w0 w ((gw,A33 ga l a n b m d index row told st)::(ga,AR (.slice (some ⟨gd,0,none⟩) l.length l.length) live peak)::(gd,B l)::rs) ss) (h:A47 l live a n b m d index) (hr:r<=n) (s0:0<=st) (s1:st<=1000000000000000):Calls prog 74 #[.pointer (some ⟨gw,0,none⟩),.int .i64 r] w fun e w'=>if r=index then (e=.returned (.tuple #[.int .i64 0,.int .u8 0,.bool false]))/\Own w0 w' ((gw,A33 ga l a n b m d index row told st)::(ga,AR (.slice (some ⟨gd,0,none⟩) l.length l.length) live peak)::(gd,B l)::rs) ss else (e=.returned (.tuple #[.int .i64 (aft (Jp l a n) (Iw index r)),.int .u8 (gi (Jp l a n) (Iw index r)),.bool true]))/\Own w0 w' ((gw,A33 ga l a n b m d index row told (st+(1+((Iw index r % d:Nat):Int))))::(ga,AR (.slice (some ⟨gd,0,none⟩) l.length l.length) live peak)::(gd,B l)::rs) ss:=by
 by_cases he:r=index
 ·simp only [if_pos he];exact A4w gw ga gd a n b m d index l row told st live peak r w0 w rs ss hm h hr s0 s1 he
 ·simp only [if_neg he];by_cases hl:index < r
  ·have hc:Iw index r=r - 1:=by rw [Iw,if_pos hl]
   rw [hc];exact A50 gw ga gd a n b m d index l row told st live peak r w0 w rs ss hm h hr s0 s1 (r - 1) (by omega) hl
  ·have hc:Iw index r=r:=by rw [Iw,if_neg hl]
   rw [hc];exact A4Z gw ga gd a n b m d index l row told st live peak r w0 w rs ss hm h hr s0 s1 r rfl (by omega)
theorem A4u {l:I_} (hb:Bytes l) (k:Nat) (h:k < l.length):((aft l k).toNat:Int)=aft l k/\(aft l k).toNat<=l.length:=by
 have:=oI hb k h;omega
def A30 (l:I_) (index:Nat):Nat->Nat->Bool
|0,r=>decide (r=index)
|k+1,r=>if r=index then false else A30 l index k (aft l (Iw index r)).toNat
def wst (l:I_) (index d:Nat):Nat->Nat->Int
|0,_=>0
|k+1,r=>if r=index then 0 else 1+((Iw index r % d:Nat):Int)+wst l index d k (aft l (Iw index r)).toNat
theorem A4A (gw ga gd a n b m d index:Nat) (l:I_) (row told st live peak:Int) (w0 w:World) (rs:Rws) (ss:List Sl) (hm:Own w0 w ((gw,A33 ga l a n b m d index row told st)::(ga,AR (.slice (some ⟨gd,0,none⟩) l.length l.length) live peak)::(gd,B l)::rs) ss) (h:A47 l live a n b m d index) (s0:0<=st) (s1:st<=100000000000000):Calls prog 29 #[.pointer (some ⟨gw,0,none⟩)] w fun e w'=>(e=.returned (.bool (A30 (Jp l a n) index n 0)))/\Own w0 w' ((gw,A33 ga l a n b m d index row told (st+wst (Jp l a n) index d n 0))::(ga,AR (.slice (some ⟨gd,0,none⟩) l.length l.length) live peak)::(gd,B l)::rs) ss:=by
 have hk:=h.rk;have hal:a+n<=l.length:=by have:=hk.ap;have:=hk.fit;have:=h.lim;omega
 have HCL:=h_ (A0d hal);have HCB:=h_ (A2Z (a:=a) (n:=n) h.sm.byt);have hn2:=hk.n2;have hd2:=hk.d2;have hd1:=hk.d1;have i1:=h.i1;have i2:=h.i2
 have CBH:Hid (∀ W (r:Nat) (st':Int),Own w0 W ((gw,A33 ga l a n b m d index row told st')::(ga,AR (.slice (some ⟨gd,0,none⟩) l.length l.length) live peak)::(gd,B l)::rs) ss->r<=n->0<=st'->st'<=1000000000000000->Calls prog 74 #[.pointer (some ⟨gw,0,none⟩),.int .i64 r] W fun e w'=>if r=index then (e=.returned (.tuple #[.int .i64 0,.int .u8 0,.bool false]))/\Own w0 w' ((gw,A33 ga l a n b m d index row told st')::(ga,AR (.slice (some ⟨gd,0,none⟩) l.length l.length) live peak)::(gd,B l)::rs) ss else (e=.returned (.tuple #[.int .i64 (aft (Jp l a n) (Iw index r)),.int .u8 (gi (Jp l a n) (Iw index r)),.bool true]))/\Own w0 w' ((gw,A33 ga l a n b m d index row told (st'+(1+((Iw index r % d:Nat):Int))))::(ga,AR (.slice (some ⟨gd,0,none⟩) l.length l.length) live peak)::(gd,B l)::rs) ss):=h_ fun W r st' hW hr h0 h1=>A3K gw ga gd a n b m d index l row told st' live peak r w0 W rs ss hW h hr h0 h1
 obtain ⟨bv,hbv⟩:∃ bv,bv=A30 (Jp l a n) index n 0:=⟨_,rfl⟩;obtain ⟨sv,hsv⟩:∃ sv,sv=wst (Jp l a n) index d n 0:=⟨_,rfl⟩;rw [<- hbv,<- hsv];have HBV:=h_ hbv;have HSV:=h_ hsv;clear hbv hsv h hk hal;go_enter func29,ntmps29
 go_wp2_with (first
 |(with_reducible refine wl 3 0 hm ?_ (hv:=c_z A4b)))
 go_loopw [3,17] (fun z u wr=>∃ (j r:Nat) (s1:Int),j<=n/\r<=n/\u=.int .i64 j/\z=.int .i64 r/\0<=s1/\s1<=j * 65537/\bv=A30 (Jp l a n) index (n - j) r/\sv=s1+wst (Jp l a n) index d (n - j) r/\Own w0 wr ((gw,A33 ga l a n b m d index row told (st+s1))::(ga,AR (.slice (some ⟨gd,0,none⟩) l.length l.length) live peak)::(gd,B l)::rs) ss) (fun _ u _=>n - (intOf u).toNat)
 case atStart=>exact ⟨0,0,0,by omega,by omega,rfl,rfl,by omega,by omega,HBV.out,by rw [Int.zero_add];exact HSV.out,by rw [Int.add_zero];exact hm⟩
 case round =>
  clear hm;obtain ⟨j,r,s1,hj,hr,rfl,rfl,s10,s11,hb,hs,hm⟩:=hrel;by_cases hlt:j < n
  ·obtain ⟨i,hi⟩:∃ i,n - j=i+1:=⟨n - j - 1,by omega⟩;rw [hi,A30] at hb;rw [hi,wst] at hs;have CB:=h_ (fun W hW=>CBH.out W r (st+s1) hW hr (by omega) (by omega));by_cases he:r=index
   ·simp only [if_pos he] at CB;rw [if_pos he] at hb hs;rw [Int.add_zero] at hs;subst hb hs;clear he
    go_wp2_with (first
     |(go_at_call 74;have _t:=hm;refine (CB.out _ hm).mono ?_;clear _t hm;rintro e w ⟨rfl,hm⟩)
     |(with_reducible refine wl 3 0 hm ?_ (hv:=c_z A3j)))
    exact xg8
   ·simp only [if_neg he] at CB;rw [if_neg he] at hb hs;have hpl:Iw index r < n:=A0z i1 i2 hr he;obtain ⟨e1,e2⟩:=A4u HCB.out (Iw index r) (by rw [HCL.out];exact hpl);rw [HCL.out] at e2;rw [<- e1] at CB;have hmod:=Nat.mod_lt (Iw index r) (show 0 < d by omega);have HB2:=h_ hb;have HS2:=h_ hs;clear hb hs he e1;generalize (aft (Jp l a n) (Iw index r)).toNat=r2 at *;generalize gi (Jp l a n) (Iw index r)=c at *;generalize Iw index r % d=m2 at *
    go_wp2_with (first
     |(go_at_call 74;have _t:=hm;refine (CB.out _ hm).mono ?_;clear _t hm;rintro e w ⟨rfl,hm⟩)
     |(with_reducible refine wl 3 0 hm ?_ (hv:=c_z A3j)))
    go_roundw
    case rel=>exact ⟨j+1,r2,s1+(1+(m2:Int)),by omega,e2,by go_num,rfl,by omega,by push_cast;omega,by rw [show n - (j+1)=i by omega];exact HB2.out,by rw [HS2.out,show n - (j+1)=i by omega];omega,by rw [show st+(s1+(1+(m2:Int)))=st+s1+(1+(m2:Int)) by omega];exact hm⟩
    case measure=>simp [intOf];omega
  ·obtain rfl:n=j:=by omega
   rw [Nat.sub_self,A30] at hb;rw [Nat.sub_self,wst,Int.add_zero] at hs;subst hb hs
   have q1:((r:Int) == index)=decide (r=index):=by
    exact xfb
   generalize hbb:decide (r=index)=bb at *;have HBB:=h_ hbb;clear hbb
   go_wp2_with (first
    |(go_at_call 74;have _t:=hm;refine (CB.out _ hm).mono ?_;clear _t hm;rintro e w ⟨rfl,hm⟩)
    |(with_reducible refine wl 3 0 hm ?_ (hv:=c_z A3j)))
   go_ret;exact ⟨by rw [HBB.out];rfl,hm⟩
theorem A54 (gw:Nat) (pa:Value) (la ln mb mn ix ds:Int) (f:Nat->Int) (row told st:Int) (w0 w:World) (rs:Rws) (ss:List Sl) (hm:Own w0 w ((gw,WK pa la ln mb mn ix ds (tab 256 f) row told st)::rs) ss):Calls prog 316 #[.pointer (some ⟨gw,0,none⟩)] w fun e w'=>(e=.returned (.int .i64 told))/\w'=w:=by
 go_enter func316,ntmps316
 go_wp2_with (first
  |(with_reducible refine wl 3 0 hm ?_ (hv:=c_z (A3p (Lm _ _)))))
 exact xg7
theorem A4B (gw:Nat) (pa:Value) (la ln mb mn ix ds:Int) (f:Nat->Int) (row told st:Int) (w0 w:World) (rs:Rws) (ss:List Sl) (hm:Own w0 w ((gw,WK pa la ln mb mn ix ds (tab 256 f) row told st)::rs) ss):Calls prog 315 #[.pointer (some ⟨gw,0,none⟩)] w fun e w'=>(e=.returned (.int .i64 st))/\w'=w:=by
 go_enter func315,ntmps315
 go_wp2_with (first
  |(with_reducible refine wl 3 0 hm ?_ (hv:=c_z (A4a (Lm _ _)))))
 exact xg7
theorem A4C (gw:Nat) (pa:Value) (la ln mb mn ix ds:Int) (f:Nat->Int) (row told st:Int) (w0 w:World) (rs:Rws) (ss:List Sl) (hm:Own w0 w ((gw,WK pa la ln mb mn ix ds (tab 256 f) row told st)::rs) ss):Calls prog 314 #[.pointer (some ⟨gw,0,none⟩)] w fun e w'=>(e=.returned (.tuple #[]))/\Own w0 w' ((gw,WK pa la ln mb mn ix ds (tab 256 f) 0 0 st)::rs) ss:=by
 go_enter func314,ntmps314
 go_wp2_with (first
  |(with_reducible refine gSt (t:=3) ?_;(refine Ad rfl (AZ 0 hm rfl rfl UU rfl (ot rfl) (by first|exact (A4p (Lm _ _))|exact (A49 (Lm _ _))) rfl rfl (by first|exact (A48 (Lm _ _) _)|exact (A3O (Lm _ _) _)) ?_);clear hm;intro w hm;try simp only [puts,s2,List.set] at hm)))
 go_end0
 exact ⟨rfl,hm⟩
theorem A55 (gw ga gd a n b m d index:Nat) (l:I_) (row told st live peak:Int) (w0 w:World) (rs:Rws) (ss:List Sl) (hm:Own w0 w ((gw,A33 ga l a n b m d index row told st)::(ga,AR (.slice (some ⟨gd,0,none⟩) l.length l.length) live peak)::(gd,B l)::rs) ss) (h:A47 l live a n b m d index) (s0:0<=st) (s1:st<=100000000000000) (ht:told=n):Calls prog 31 #[.pointer (some ⟨gw,0,none⟩)] w fun e w'=>(e=.returned (.tuple #[.int .u8 0,.bool false]))/\Own w0 w' ((gw,A33 ga l a n b m d index row told st)::(ga,AR (.slice (some ⟨gd,0,none⟩) l.length l.length) live peak)::(gd,B l)::rs) ss:=by
 subst ht;clear h s0 s1;rw [A33] at hm;go_enter func31,ntmps31
 go_upto_region 1 with fail
 refine rO hm 14 (.rds [(0,false),(1,false),(2,false),(3,false),(4,false),(5,false),(6,true),(7,false),(8,false),(9,false),(10,false),(11,true),(12,false),(13,false)] .done) ?_;clear hm;intro w hm;simp only [KT.rds]
 iterate 3 refine kq ?_
 (first|refine kq ?_|(refine Bz rfl rfl ?_))
 try simp only [Act.put,s3]
 (first|refine kq ?_|(refine Bz rfl rfl ?_))
 try simp only [Act.put,s3]
 (first|refine kq ?_|(refine Bz rfl rfl ?_))
 try simp only [Act.put,s3]
 (first|(refine K_m rfl rfl (fun W hm=>ld 0 hm rfl rfl rfl (ot rfl) (A3p (Lm _ _))) ?_)|(refine D6 rfl rfl ?_))
 try simp only [Act.put,s3]
 (first|refine kq ?_|(refine Bz rfl rfl ?_))
 try simp only [Act.put,s3]
 (first|refine kq ?_|(refine Bz rfl rfl ?_))
 try simp only [Act.put,s3]
 (first|refine kq ?_|(refine Bz rfl rfl ?_))
 try simp only [Act.put,s3]
 (first|refine kq ?_|(refine Bz rfl rfl ?_))
 try simp only [Act.put,s3]
 (first|(refine K_m rfl rfl (fun W hm=>ld 0 hm rfl rfl rfl (ot rfl) A4b) ?_)|(refine D6 rfl rfl ?_))
 exact xc1
theorem A5I (gw ga gd a n b m d index:Nat) (l:I_) (r k:Nat) (st live peak:Int) (w0 w:World) (rs:Rws) (ss:List Sl) (hm:Own w0 w ((gw,A33 ga l a n b m d index r k st)::(ga,AR (.slice (some ⟨gd,0,none⟩) l.length l.length) live peak)::(gd,B l)::rs) ss) (h:A47 l live a n b m d index) (s0:0<=st) (s1:st<=100000000000000) (hr:r<=n) (hk:k < n) (he:r ≠ index):Calls prog 31 #[.pointer (some ⟨gw,0,none⟩)] w fun e w'=>(e=.returned (.tuple #[.int .u8 (gi (Jp l a n) (Iw index r)),.bool true]))/\Own w0 w' ((gw,A33 ga l a n b m d index (aft (Jp l a n) (Iw index r)) (k+1) (st+(1+((Iw index r % d:Nat):Int))))::(ga,AR (.slice (some ⟨gd,0,none⟩) l.length l.length) live peak)::(gd,B l)::rs) ss:=by
 have CB:Hid (∀ W,Own w0 W ((gw,A33 ga l a n b m d index r k st)::(ga,AR (.slice (some ⟨gd,0,none⟩) l.length l.length) live peak)::(gd,B l)::rs) ss->Calls prog 74 #[.pointer (some ⟨gw,0,none⟩),.int .i64 r] W fun e w'=>if r=index then (e=.returned (.tuple #[.int .i64 0,.int .u8 0,.bool false]))/\Own w0 w' ((gw,A33 ga l a n b m d index r k st)::(ga,AR (.slice (some ⟨gd,0,none⟩) l.length l.length) live peak)::(gd,B l)::rs) ss else (e=.returned (.tuple #[.int .i64 (aft (Jp l a n) (Iw index r)),.int .u8 (gi (Jp l a n) (Iw index r)),.bool true]))/\Own w0 w' ((gw,A33 ga l a n b m d index r k (st+(1+((Iw index r % d:Nat):Int))))::(ga,AR (.slice (some ⟨gd,0,none⟩) l.length l.length) live peak)::(gd,B l)::rs) ss):=h_ fun W hW=>A3K gw ga gd a n b m d index l r k st live peak r w0 W rs ss hW h hr s0 (by omega);have hn2:=h.rk.n2;have q1:((k:Int) == n)=false:=by simp;omega
 have w1:IntKind.i64.wrap ((k:Int)+1)=(k:Int)+1:=i_6;simp only [if_neg he] at CB;clear h s0 s1 he hr;generalize aft (Jp l a n) (Iw index r)=r2 at *;obtain ⟨q,hq⟩:∃ q:Nat,q=Iw index r % d:=⟨_,rfl⟩;rw [<- hq] at CB ⊢;generalize gi (Jp l a n) (Iw index r)=c at *;clear hq;go_enter func31,ntmps31
 go_upto_region 1 with fail
 refine rO hm 14 (.rds [(0,false),(1,false),(2,false),(3,false),(4,false),(5,false),(6,true),(7,false),(8,false),(9,false),(10,false),(11,true),(12,false),(13,false)] .done) ?_;clear hm;intro w hm;simp only [KT.rds]
 iterate 3 refine kq ?_
 (first|refine kq ?_|(refine Bz rfl rfl ?_))
 try simp only [Act.put,s3]
 (first|refine kq ?_|(refine Bz rfl rfl ?_))
 try simp only [Act.put,s3]
 (first|refine kq ?_|(refine Bz rfl rfl ?_))
 try simp only [Act.put,s3]
 (first|(refine K_m rfl rfl (fun W hm=>ld 0 hm rfl rfl rfl (ot rfl) (A3p (Lm _ _))) ?_)|(refine D6 rfl rfl ?_))
 try simp only [Act.put,s3]
 (first|refine kq ?_|(refine Bz rfl rfl ?_))
 try simp only [Act.put,s3]
 (first|refine kq ?_|(refine Bz rfl rfl ?_))
 try simp only [Act.put,s3]
 (first|refine kq ?_|(refine Bz rfl rfl ?_))
 try simp only [Act.put,s3]
 (first|refine kq ?_|(refine Bz rfl rfl ?_))
 try simp only [Act.put,s3]
 (first|(refine K_m rfl rfl (fun W hm=>ld 0 hm rfl rfl rfl (ot rfl) A4b) ?_)|(refine D6 rfl rfl ?_))
 try simp only [Act.put,s3]
 (first|refine kq ?_|(refine Bz rfl rfl ?_))
 try simp only [Act.put,s3]
 refine kq ?_;refine Ba ?_;go_simp
 go_wp2_with (first
  |(go_at_call 74;have _t:=hm;refine (CB.out _ hm).mono ?_;clear _t hm;rintro e w ⟨rfl,hm⟩)
  |(with_reducible refine wl 3 0 hm ?_ (hv:=(by with_unfolding_all (first|exact (A66 (Lm _ _))|exact (A3p (Lm _ _))))))
  |(with_reducible refine wc 3 0 hm ?_ (hf:=(by with_unfolding_all (first|exact (A4p (Lm _ _))|exact (A49 (Lm _ _))))) (hn:=(by with_unfolding_all (first|exact (A48 (Lm _ _) _)|exact (A3O (Lm _ _) _))));clear hm;intro w hm))
 go_ret2
 exact ⟨rfl,hm⟩
variable {a:Act} {ds la ln mb mn:Int} {ss:List Sl} {p q r s t:Nat × A_} {o:Oper} {u x y z:Operand} {rs:Rws} {w w0:World}
theorem zrWK (w:World):(zeroValue 121).run prog w=.ok (.agg (WK (.pointer none) 0 0 0 0 0 0 (tab 256 fun _=>0) 0 0 0)) w:=by kernel_rfl
theorem A4g {v:Operand} (ho:o.op=.build 121 #[(0,x),(1,y),(2,z),(3,u),(4,v)]) {p:Value} {ix:Int} (hx:a.eval x=p) (hp:p.cells=#[p]) (hy:a.eval y=.agg (SP la ln)) (hz:a.eval z=.agg (SP mb mn)) (hu:a.eval u=.int .i64 ix) (hv:a.eval v=.int .i64 ds) :
  (execOp a.eval o).run prog w=.ok (.value (.agg (WK p la ln mb mn ix ds (tab 256 fun _=>0) 0 0 0))) w:=by
 refine Dq ho ?_;rw [VT (places:=[(0,1),(1,2),(3,2),(5,1),(6,1),(7,256),(263,1),(264,1),(265,1)]) (by kernel_rfl) (by kernel_rfl) zrWK (by kernel_rfl) w];simp only [l_y,List.map_cons,List.map_nil,hx,hy,hz,hu,hv];have hl:(tab 256 fun _=>0).length=256:=Lm _ _;generalize (tab 256 fun _=>0)=less at *;rw [VG rfl hp (by rw [A37 hl];omega) (A63 p)]
 rw [show SP la ln=([Value.int .i64 la,.int .i64 ln]:L_).toArray from rfl,Zj [Value.int .i64 la,.int .i64 ln] (n:=2) (ns:=WK p la ln 0 0 0 0 less 0 0 0) rfl rfl (by rw [A37 hl];omega) (by
  show splice ([p]++([Value.int .i64 0,.int .i64 0]++([Value.int .i64 0,.int .i64 0,.int .i64 0,.int .i64 0]++(vs .i64 less++[Value.int .i64 0,.int .i64 0,.int .i64 0])))).toArray 1 _=_
  exact bn (off:=1) (P:=[p]) rfl rfl)]
 rw [show SP mb mn=([Value.int .i64 mb,.int .i64 mn]:L_).toArray from rfl,Zj [Value.int .i64 mb,.int .i64 mn] (n:=2) (ns:=WK p la ln mb mn 0 0 less 0 0 0) rfl rfl (by rw [A37 hl];omega) (by
  show splice ([p,Value.int .i64 la,.int .i64 ln]++([Value.int .i64 0,.int .i64 0]++([Value.int .i64 0,.int .i64 0]++(vs .i64 less++[Value.int .i64 0,.int .i64 0,.int .i64 0])))).toArray 3 _=_
  exact bn (off:=3) (P:=[p,Value.int .i64 la,.int .i64 ln]) rfl rfl)]
 rw [VG rfl rfl (by rw [A37 hl];omega) (A64 ix),VG rfl rfl (by rw [A37 hl];omega) (A65 ds)];rfl
theorem Own.rot4 (h:Own w0 w (p::q::r::s::rs) ss):Own w0 w (r::s::p::q::rs) ss:=h.perm ((List.perm_append_comm (l₁:=[r,s]) (l₂:=[p,q])).append_right rs)
theorem Own.sel34 (h:Own w0 w (t::p::q::r::s::rs) ss):Own w0 w (t::r::s::rs) ss:=h.sub (List.Sublist.cons_cons _ (List.Sublist.cons _ (List.Sublist.cons _ (List.Sublist.refl _)))) (List.Sublist.refl _)
theorem A5J (ga gd a n b m d index:Nat) (l:I_) (live peak:Int) (w0 w:World) (rs:Rws) (ss:List Sl) (hm:Own w0 w ((ga,AR (.slice (some ⟨gd,0,none⟩) l.length l.length) live peak)::(gd,B l)::rs) ss) (hb:Bytes l) (hk:A68 live a n b m d) (lim:live<=l.length) (big:l.length<=1048576) (i1:1<=index) (i2:index<=n):Calls prog 26 #[.pointer (some ⟨ga,0,none⟩),.agg (SP a n),.int .i64 index,.agg (SP b m),.int .i64 d] w fun e w'=>∃ (gw:Nat) (l2:I_),(e=.returned (.tuple #[.pointer (some ⟨gw,0,none⟩),.int .i64 0]))/\l2.length=l.length/\Jp l2 a n=Jp l a n/\(∀ i,i < b->gi l2 i=gi l i)/\A47 l2 live a n b m d index/\Own w0 w' ((gw,A33 ga l2 a n b m d index 0 0 0)::(ga,AR (.slice (some ⟨gd,0,none⟩) l2.length l2.length) live peak)::(gd,B l2)::rs) ss:=by
 have CM:Hid (∀ W g1 g2,Own w0 W ((g2,SP b m)::(g1,SP a n)::(ga,AR (.slice (some ⟨gd,0,none⟩) l.length l.length) live peak)::(gd,B l)::rs) ss->Calls prog 69 #[.pointer (some ⟨ga,0,none⟩),.agg (SP a n),.agg (SP b m),.int .i64 d] W fun e w'=>(e=.returned (.int .i64 0))/\∃ l2,Marks (Jp l a n) l l2 b d (n / d) 0/\Own w0 w' ((g2,SP b m)::(g1,SP a n)::(ga,AR (.slice (some ⟨gd,0,none⟩) l.length l.length) live peak)::(gd,B l2)::rs) ss):=h_ fun W g1 g2 hW=>(A6o ga gd a n b m d l live peak w0 W ((g2,SP b m)::(g1,SP a n)::rs) ss hW.rot4 hb hk lim big).mono fun e w' h=>by
  obtain ⟨h1,l2,h2,h3⟩:=h;exact ⟨h1,l2,h2,h3.rot4⟩
 have hal:a+n<=l.length:=by have:=hk.ap;have:=hk.fit;omega
 have q1:decide ((index:Int) < 1)=false:=d_f;have q2:decide ((n:Int) < index)=false:=d_f;have q3:decide (n < index)=false:=d_f;have HK:=h_ hk;have ap:=hk.ap;have n2:=hk.n2;clear hk hb;go_enter func26,ntmps26
 go_wp2_with (first
 |(go_at_call 69;have _t:=hm;refine (CM.out _ _ _ hm).mono ?_;clear _t hm;rintro e w ⟨rfl,l2,hM,hm⟩)
 |(with_reducible refine wb hm ?_;clear hm;first|(have _t:=g2;intro w gw hm)|(have _t:=g1;intro w g2 hm)|intro w g1 hm)
 |(with_reducible refine gBu ?_;(refine A8 rfl (A4g rfl rfl rfl rfl rfl rfl rfl) ?_))
 |(with_reducible (first|refine wl 3 0 hm ?_ (hv:=(by with_unfolding_all (first|exact (SP0 _ _)|exact (SP1 _ _))))|refine wl 3 1 hm ?_ (hv:=(by with_unfolding_all (first|exact (SP0 _ _)|exact (SP1 _ _))))))
 |(with_reducible (first|refine wla 50 0 hm ?_ (ht:=c_z (Eo _ _))|refine wla 50 1 hm ?_ (ht:=c_z (Eo _ _)))))
 obtain ⟨hS,hcol⟩:=hM.A6H hal ap;have hl2:=hM.len;have hout:=hM.out;rw [<- hl2] at hm
 have CR:Hid (∀ (W:World) (k:Nat),AA W ga (AR (.slice (some ⟨gd,0,none⟩) l2.length l2.length) live peak)->AA W gd (B l2)->k < 256->Calls prog 70 #[.pointer (some ⟨ga,0,none⟩),.agg (SP a n),.agg (SP b m),.int .i64 d,.int .u8 k,.int .i64 n] W fun e w'=>(e=.returned (.tuple #[.int .i64 (eqn (Jp l2 a n) k),.int .i64 ((n % d:Nat):Int),.bool true]))/\Below W.heap.size W w'):=h_ fun W k h3 h4 hk=>by
  have:=sN ga gd a n b m d k n l2 live peak W h3 h4 hS HK.out (by omega) (by omega) hk (Nat.le_refl _);rwa [List.take_of_length_le (by rw [A0d (by omega)];exact Nat.le_refl _)] at this
 have HCL:Hid ((Jp l2 a n).length=n):=h_ (A0d (by omega));have HCB:Hid (Bytes (Jp l2 a n)):=h_ (A2Z hS.byt);have HP1:=h_ (⟨hl2,hcol,hout,⟨HK.out,hS,by omega,by omega,i1,i2⟩⟩:l2.length=l.length/\Jp l2 a n=Jp l a n/\(∀ i,i < b->gi l2 i=gi l i)/\A47 l2 live a n b m d index);have hm0:Own w0 w ((gw,WK (.pointer (some ⟨ga,0,none⟩)) a n b m index d (tab 256 (fun j=>if j < 0 then lsn (Jp l2 a n) j else 0)) 0 0 0)::(g2,SP b m)::(g1,SP a n)::(ga,AR (.slice (some ⟨gd,0,none⟩) l2.length l2.length) live peak)::(gd,B l2)::rs) ss:=hm;clear hM hS hcol hout hl2 hm;have hm:=hm0;clear hm0
 go_loopw [14,42] (fun z u wr=>∃ k:Nat,k<=256/\u=.int .i64 k/\z=.int .i64 (lsn (Jp l2 a n) k)/\Own w0 wr ((gw,WK (.pointer (some ⟨ga,0,none⟩)) a n b m index d (tab 256 (fun j=>if j < k then lsn (Jp l2 a n) j else 0)) 0 0 0)::(g2,SP b m)::(g1,SP a n)::(ga,AR (.slice (some ⟨gd,0,none⟩) l2.length l2.length) live peak)::(gd,B l2)::rs) ss) (fun _ u _=>256 - (intOf u).toNat)
 case atStart=>exact ⟨0,by omega,rfl,by rw [uY HCB.out],hm⟩
 case round =>
  clear hm;obtain ⟨k,hk,rfl,rfl,hm⟩:=hrel;by_cases hlt:k < 256
  ·have b1:=Ll (Jp l2 a n) k;have b2:=Fz (Jp l2 a n) k;rw [HCL.out] at b1 b2;have w1:IntKind.u8.wrap (k:Int)=k:=IntWalk.u8_in _ (by omega);have w3:IntKind.i64.wrap (lsn (Jp l2 a n) k+eqn (Jp l2 a n) k)=lsn (Jp l2 a n) k+eqn (Jp l2 a n) k:=i_6;have HE2:=h_ (A4F (Jp l2 a n) k);have CR1:=h_ (fun W h3 h4=>CR.out W k h3 h4 hlt);have HL1:Hid ((tab 256 (fun j=>if j < k then lsn (Jp l2 a n) j else 0)).length=256):=h_ (Lm _ _)
   have HP:Hid ((tab 256 (fun j=>if j < k then lsn (Jp l2 a n) j else 0)).set k (lsn (Jp l2 a n) k)=tab 256 (fun j=>if j < k+1 then lsn (Jp l2 a n) j else 0)):=h_ (by
    rw [zQ];refine Gi fun j _=>?_;by_cases e:j=k
    ·subst e;rw [if_pos rfl,if_pos (by omega)]
    ·rw [if_neg e];by_cases h:j < k
     ·rw [if_pos h,if_pos (by omega)]
     ·rw [if_neg h,if_neg (by omega)])
   have HSZ:Hid (∀ (x:I_),x.length=256->7+k < (WK (.pointer (some ⟨ga,0,none⟩)) a n b m index d x 0 0 0).size):=h_ fun x hx=>by rw [A37 hx];omega
   clear b1 b2;generalize lsn (Jp l2 a n) k=x at *;generalize eqn (Jp l2 a n) k=y at *;generalize hT1:tab 256 (fun j=>if j < k then lsn (Jp l2 a n) j else 0)=T1 at *;generalize hT2:tab 256 (fun j=>if j < k+1 then lsn (Jp l2 a n) j else 0)=T2 at *
   go_wp2_with (first
    |(go_at_call 70;refine cB (CR1.out _ (hm.row 3 rfl) (hm.row 4 rfl)) hm ?_;clear hm;intro w1 hm)
    |(with_reducible (first|refine wl 3 1 hm ?_ (hv:=(by with_unfolding_all (first|exact (SP0 _ _)|exact (SP1 _ _))))|refine wl 3 2 hm ?_ (hv:=(by with_unfolding_all (first|exact (SP0 _ _)|exact (SP1 _ _))))))
    |(with_reducible (first|refine wla 50 1 hm ?_ (ht:=c_z (Eo _ _))|refine wla 50 2 hm ?_ (ht:=c_z (Eo _ _))))
    |(with_reducible refine wc 3 0 hm ?_ (hf:=c_z (HSZ.out _ HL1.out)) (hn:=c_z (A4R HL1.out k hlt _));clear hm;intro w hm))
   rw [HP.out] at hm;exact xdh
  ·obtain rfl:k=256:=by omega
   rw [Gi (f:=fun j=>if j < 256 then lsn (Jp l2 a n) j else 0) (g:=lsn (Jp l2 a n)) (fun i hi=>by rw [if_pos hi])] at hm;go_wp2
   go_ret2
   exact ⟨gw,l2,rfl,HP1.out.1,HP1.out.2.1,HP1.out.2.2.1,HP1.out.2.2.2,hm.sel34⟩
variable {la ln rm:Int}
def FL (pa:Value) (la:Int) (ln:Int) (rb:Int) (rm:Int) (ix:Int) (row:Int) (told:Int) (st:Int):A_:=([pa,Value.int .i64 la,.int .i64 ln,Value.int .i64 rb,.int .i64 rm,Value.int .i64 ix,.int .i64 row,Value.int .i64 told,.int .i64 st]).toArray
theorem A3d {pa:Value} {rb:Int} {ix:Int} {row:Int} {told:Int} {st:Int} :(FL pa la ln rb rm ix row told st).size=9:=by simp [FL,Ai]
theorem A3F {pa:Value} {rb:Int} {ix:Int} {row:Int} {told:Int} {st:Int} :(FL pa la ln rb rm ix row told st)[0]?=some (pa):=rfl
theorem A6a {pa:Value} {rb:Int} {ix:Int} {row:Int} {told:Int} {st:Int}  (x:Value):(FL pa la ln rb rm ix row told st).setIfInBounds 0 (x)=FL x la ln rb rm ix row told st:=rfl
theorem A3k {pa:Value} {rb:Int} {ix:Int} {row:Int} {told:Int} {st:Int} :(FL pa la ln rb rm ix row told st)[2]?=some (Value.int .i64 ln):=rfl
theorem A3g {pa:Value} {rb:Int} {ix:Int} {row:Int} {told:Int} {st:Int} :(FL pa la ln rb rm ix row told st)[5]?=some (Value.int .i64 ix):=rfl
theorem A6b {pa:Value} {rb:Int} {ix:Int} {row:Int} {told:Int} {st:Int}  (x:Int):(FL pa la ln rb rm ix row told st).setIfInBounds 5 (Value.int .i64 x)=FL pa la ln rb rm x row told st:=rfl
theorem A6c {pa:Value} {rb:Int} {ix:Int} {row:Int} {told:Int} {st:Int} :(FL pa la ln rb rm ix row told st)[6]?=some (Value.int .i64 row):=rfl
theorem A4d {pa:Value} {rb:Int} {ix:Int} {row:Int} {told:Int} {st:Int}  (x:Int):(FL pa la ln rb rm ix row told st).setIfInBounds 6 (Value.int .i64 x)=FL pa la ln rb rm ix x told st:=rfl
theorem A4q {pa:Value} {rb:Int} {ix:Int} {row:Int} {told:Int} {st:Int} :6 < (FL pa la ln rb rm ix row told st).size:=by rw [A3d ];omega
theorem A3q {pa:Value} {rb:Int} {ix:Int} {row:Int} {told:Int} {st:Int} :(FL pa la ln rb rm ix row told st)[7]?=some (Value.int .i64 told):=rfl
theorem A3P {pa:Value} {rb:Int} {ix:Int} {row:Int} {told:Int} {st:Int}  (x:Int):(FL pa la ln rb rm ix row told st).setIfInBounds 7 (Value.int .i64 x)=FL pa la ln rb rm ix row x st:=rfl
theorem A4e {pa:Value} {rb:Int} {ix:Int} {row:Int} {told:Int} {st:Int} :7 < (FL pa la ln rb rm ix row told st).size:=by rw [A3d ];omega
theorem A4V {pa:Value} {rb:Int} {ix:Int} {row:Int} {told:Int} {st:Int} :(FL pa la ln rb rm ix row told st)[8]?=some (Value.int .i64 st):=rfl
theorem A69 {pa:Value} {rb:Int} {ix:Int} {row:Int} {told:Int} {st:Int}  (x:Int):(FL pa la ln rb rm ix row told st).setIfInBounds 8 (Value.int .i64 x)=FL pa la ln rb rm ix row told x:=rfl
theorem A6D {pa:Value} {rb:Int} {ix:Int} {row:Int} {told:Int} {st:Int} :8 < (FL pa la ln rb rm ix row told st).size:=by rw [A3d ];omega
theorem A6C {pa:Value} {rb ix row told st:Int}:(FL pa la ln rb rm ix row told st).extract 1 (1+(SP la ln).size)=SP la ln:=by
 show ([pa]++([Value.int .i64 la,.int .i64 ln]++[Value.int .i64 rb,.int .i64 rm,.int .i64 ix,.int .i64 row,.int .i64 told,.int .i64 st])).toArray.extract 1 (1+2)=_;exact Xl rfl rfl
theorem A6B {pa:Value} {rb ix row told st:Int}:(FL pa la ln rb rm ix row told st).extract 3 (3+(SP rb rm).size)=SP rb rm:=by
 show ([pa,Value.int .i64 la,.int .i64 ln]++([Value.int .i64 rb,.int .i64 rm]++[Value.int .i64 ix,.int .i64 row,.int .i64 told,.int .i64 st])).toArray.extract 3 (3+2)=_;exact Xl rfl rfl
theorem A5B {pa:Value} {rb ix row told st:Int}:1+(SP la ln).size<=(FL pa la ln rb rm ix row told st).size:=by rw [A3d];show 1+2<=9;omega
theorem A5A {pa:Value} {rb ix row told st:Int}:3+(SP rb rm).size<=(FL pa la ln rb rm ix row told st).size:=by rw [A3d];show 3+2<=9;omega
abbrev A7m (ga a n b m index:Nat) (row told st:Int):A_:=FL (.pointer (some ⟨ga,0,none⟩)) a n b m index row told st
structure A3z (l:I_) (live:Int) (a n b m index:Nat):Prop where
 n1:1<=n
 n2:n<=65536
 ap:a+n<=b
 fit:(b:Int)+m<=live
 four:4 * (n+1)<=m
 lim:live<=l.length
 big:l.length<=1048576
 i1:1<=index
 i2:index<=n
 byt:Bytes l
theorem A5E (gf ga gd a n b m index:Nat) (l:I_) (row told st live peak:Int) (r:Nat) (w0 w:World) (rs:Rws) (ss:List Sl) (hm:Own w0 w ((gf,A7m ga a n b m index row told st)::(ga,AR (.slice (some ⟨gd,0,none⟩) l.length l.length) live peak)::(gd,B l)::rs) ss) (h:A3z l live a n b m index) (hr:r<=n) (he:r=index):Calls prog 67 #[.pointer (some ⟨gf,0,none⟩),.int .i64 r] w fun e w'=>(e=.returned (.tuple #[.int .u8 0,.bool false]))/\Own w0 w' ((gf,A7m ga a n b m index row told st)::(ga,AR (.slice (some ⟨gd,0,none⟩) l.length l.length) live peak)::(gd,B l)::rs) ss:=by
 subst he;clear h hr;go_enter func67,ntmps67
 go_wp2_with (first
  |(with_reducible refine wl 3 0 hm ?_ (hv:=c_z A3g)))
 go_ret2
 exact ⟨rfl,hm⟩
theorem A6i (gf ga gd a n b m index:Nat) (l:I_) (row told st live peak:Int) (r:Nat) (w0 w:World) (rs:Rws) (ss:List Sl) (hm:Own w0 w ((gf,A7m ga a n b m index row told st)::(ga,AR (.slice (some ⟨gd,0,none⟩) l.length l.length) live peak)::(gd,B l)::rs) ss) (h:A3z l live a n b m index) (hr:r<=n) (p:Nat) (hp:p=r) (hlt:r < index):Calls prog 67 #[.pointer (some ⟨gf,0,none⟩),.int .i64 r] w fun e w'=>(e=.returned (.tuple #[.int .u8 (gi (Jp l a n) p),.bool true]))/\Own w0 w' ((gf,A7m ga a n b m index row told st)::(ga,AR (.slice (some ⟨gd,0,none⟩) l.length l.length) live peak)::(gd,B l)::rs) ss:=by
 obtain ⟨n1,n2,ap,fit,four,lim,big,i1,i2,byt⟩:=h;have hal:a+n<=l.length:=by omega
 have CB:Hid (∀ W,AA W ga (AR (.slice (some ⟨gd,0,none⟩) l.length l.length) live peak)->AA W gd (B l)->Calls prog 116 #[.pointer (some ⟨ga,0,none⟩),.agg (SP a n),.int .i64 p] W fun e w'=>(e=.returned (.tuple #[.int .u8 (gi (Jp l a n) p),.bool true]))/\Below W.heap.size W w'):=h_ fun W h3 h4=>by have:=A0G ga gd a n p l live peak W h3 h4 (by omega) lim big (by omega);rwa [<- A2p hal (by omega)] at this
 generalize gi (Jp l a n) p=c at *;subst hp;have q1:((p:Int) == index)=false:=by simp;omega
 have q2:decide ((index:Int) < p)=false:=d_f;have q3:decide (index < p)=false:=d_f;exact xbb
theorem A6j (gf ga gd a n b m index:Nat) (l:I_) (row told st live peak:Int) (r:Nat) (w0 w:World) (rs:Rws) (ss:List Sl) (hm:Own w0 w ((gf,A7m ga a n b m index row told st)::(ga,AR (.slice (some ⟨gd,0,none⟩) l.length l.length) live peak)::(gd,B l)::rs) ss) (h:A3z l live a n b m index) (hr:r<=n) (p:Nat) (hp:r=p+1) (hlt:index < r):Calls prog 67 #[.pointer (some ⟨gf,0,none⟩),.int .i64 r] w fun e w'=>(e=.returned (.tuple #[.int .u8 (gi (Jp l a n) p),.bool true]))/\Own w0 w' ((gf,A7m ga a n b m index row told st)::(ga,AR (.slice (some ⟨gd,0,none⟩) l.length l.length) live peak)::(gd,B l)::rs) ss:=by
 obtain ⟨n1,n2,ap,fit,four,lim,big,i1,i2,byt⟩:=h;have hal:a+n<=l.length:=by omega
 have CB:Hid (∀ W,AA W ga (AR (.slice (some ⟨gd,0,none⟩) l.length l.length) live peak)->AA W gd (B l)->Calls prog 116 #[.pointer (some ⟨ga,0,none⟩),.agg (SP a n),.int .i64 p] W fun e w'=>(e=.returned (.tuple #[.int .u8 (gi (Jp l a n) p),.bool true]))/\Below W.heap.size W w'):=h_ fun W h3 h4=>by have:=A0G ga gd a n p l live peak W h3 h4 (by omega) lim big (by omega);rwa [<- A2p hal (by omega)] at this
 generalize gi (Jp l a n) p=c at *;subst hp;have q1:(((p+1:Nat):Int) == index)=false:=by simp;omega
 have q1b:((p:Int)+1 == index)=false:=by simp;omega
 have q2:decide ((index:Int) < ((p+1:Nat):Int))=true:=d_t;have q2b:decide ((index:Int) < (p:Int)+1)=true:=d_t;have q3:decide (index < p+1)=true:=decide_eq_true hlt;have w0b:IntKind.i64.wrap ((p:Int)+1 - 1)=p:=by rw [IntWalk.i64_in _ (by omega)];omega
 exact xbb
theorem A3G (gf ga gd a n b m index:Nat) (l:I_) (row told st live peak:Int) (r:Nat) (w0 w:World) (rs:Rws) (ss:List Sl) (hm:Own w0 w ((gf,A7m ga a n b m index row told st)::(ga,AR (.slice (some ⟨gd,0,none⟩) l.length l.length) live peak)::(gd,B l)::rs) ss) (h:A3z l live a n b m index) (hr:r<=n):Calls prog 67 #[.pointer (some ⟨gf,0,none⟩),.int .i64 r] w fun e w'=>(e=.returned (if r=index then .tuple #[.int .u8 0,.bool false] else .tuple #[.int .u8 (gi (Jp l a n) (Iw index r)),.bool true]))/\Own w0 w' ((gf,A7m ga a n b m index row told st)::(ga,AR (.slice (some ⟨gd,0,none⟩) l.length l.length) live peak)::(gd,B l)::rs) ss:=by
 by_cases he:r=index
 ·simp only [if_pos he];exact A5E gf ga gd a n b m index l row told st live peak r w0 w rs ss hm h hr he
 ·simp only [if_neg he];by_cases hl:index < r
  ·have hc:Iw index r=r - 1:=by rw [Iw,if_pos hl]
   rw [hc];exact A6j gf ga gd a n b m index l row told st live peak r w0 w rs ss hm h hr (r - 1) (by omega) hl
  ·have hc:Iw index r=r:=by rw [Iw,if_neg hl]
   rw [hc];exact A6i gf ga gd a n b m index l row told st live peak r w0 w rs ss hm h hr r rfl (by omega)
theorem A3L (gf ga gd a n b m index:Nat) (l:I_) (row told st live peak:Int) (r:Nat) (w0 w:World) (rs:Rws) (ss:List Sl) (hm:Own w0 w ((gf,A7m ga a n b m index row told st)::(ga,AR (.slice (some ⟨gd,0,none⟩) l.length l.length) live peak)::(gd,B l)::rs) ss) (h:A3z l live a n b m index) (hr:r<=n) (hw:w32 l (b+4 * r) 4=rowsOf (Jp l a n) index r) (s0:0<=st) (s1:st<=1000000000000000) (he:r=index):Calls prog 73 #[.pointer (some ⟨gf,0,none⟩),.int .i64 r] w fun e w'=>(e=.returned (.tuple #[.int .i64 0,.int .u8 0,.bool false]))/\Own w0 w' ((gf,A7m ga a n b m index row told st)::(ga,AR (.slice (some ⟨gd,0,none⟩) l.length l.length) live peak)::(gd,B l)::rs) ss:=by
 have CY:Hid (∀ W,Own w0 W ((gf,A7m ga a n b m index row told st)::(ga,AR (.slice (some ⟨gd,0,none⟩) l.length l.length) live peak)::(gd,B l)::rs) ss->Calls prog 67 #[.pointer (some ⟨gf,0,none⟩),.int .i64 r] W fun e w'=>(e=.returned (if r=index then .tuple #[.int .u8 0,.bool false] else .tuple #[.int .u8 (gi (Jp l a n) (Iw index r)),.bool true]))/\Own w0 w' ((gf,A7m ga a n b m index row told st)::(ga,AR (.slice (some ⟨gd,0,none⟩) l.length l.length) live peak)::(gd,B l)::rs) ss):=h_ fun W hW=>A3G gf ga gd a n b m index l row told st live peak r w0 W rs ss hW h hr
 have CW:Hid (∀ W,AA W ga (AR (.slice (some ⟨gd,0,none⟩) l.length l.length) live peak)->AA W gd (B l)->Calls prog 120 #[.pointer (some ⟨ga,0,none⟩),.agg (SP b m),.int .i64 r] W fun e w'=>(e=.returned (.tuple #[.int .u32 (rowsOf (Jp l a n) index r),.bool true]))/\Below W.heap.size W w'):=h_ fun W h3 h4=>by have:=dW ga gd b m r l live peak W h3 h4 h.byt h.fit h.lim h.big (by have:=h.four;omega);rwa [hw] at this
 rw [if_pos he] at CY;rw [rowsOf,if_pos he] at CW;clear h hr he hw s0 s1;go_enter func73,ntmps73
 go_upto_region 2 with (first
  |(go_at_call 67;have _t:=hm;refine (CY.out _ hm).mono ?_;clear _t hm;rintro e w ⟨rfl,hm⟩))
 refine rO hm 9 (.rds [(0,false),(1,false),(2,false),(3,true),(4,false),(5,false),(6,false),(7,true),(8,false)] (.brk 9 15 (.rds [(10,false),(11,false),(12,false),(13,false),(14,false)] .done))) ?_;clear hm;intro w hm;simp only [KT.rds]
 iterate 3 refine kq ?_
 refine km (fun W hm=>ld 0 hm rfl rfl rfl (ot rfl) A3F) ?_
 iterate 3 refine kq ?_
 refine km (fun W hm=>ldp 0 hm rfl rfl rfl A6B (Eo _ _) A5A) ?_;refine kq ?_;refine PO rfl rfl (fun K hK=>?_);go_simp;refine (CW.out _ (hm.row 1 rfl) (hm.row 2 rfl)).mono ?_;rintro e w1 ⟨rfl,hb⟩;replace hm:=hm.call hb;clear hb;refine hK _ _ ⟨fun W=>Own _ W _ _,hm,?_⟩;clear hK K
 try simp only [Act.put,s3]
 iterate 5 refine kq ?_
 refine Ba ?_;go_simp;go_wp2;exact xf4
theorem A3U (gf ga gd a n b m index:Nat) (l:I_) (row told st live peak:Int) (r:Nat) (w0 w:World) (rs:Rws) (ss:List Sl) (hm:Own w0 w ((gf,A7m ga a n b m index row told st)::(ga,AR (.slice (some ⟨gd,0,none⟩) l.length l.length) live peak)::(gd,B l)::rs) ss) (h:A3z l live a n b m index) (hr:r<=n) (hw:w32 l (b+4 * r) 4=rowsOf (Jp l a n) index r) (s0:0<=st) (s1:st<=1000000000000000) (he:r ≠ index):Calls prog 73 #[.pointer (some ⟨gf,0,none⟩),.int .i64 r] w fun e w'=>(e=.returned (.tuple #[.int .i64 (aft (Jp l a n) (Iw index r)),.int .u8 (gi (Jp l a n) (Iw index r)),.bool true]))/\Own w0 w' ((gf,A7m ga a n b m index row told (st+1))::(ga,AR (.slice (some ⟨gd,0,none⟩) l.length l.length) live peak)::(gd,B l)::rs) ss:=by
 have CY:Hid (∀ W,Own w0 W ((gf,A7m ga a n b m index row told st)::(ga,AR (.slice (some ⟨gd,0,none⟩) l.length l.length) live peak)::(gd,B l)::rs) ss->Calls prog 67 #[.pointer (some ⟨gf,0,none⟩),.int .i64 r] W fun e w'=>(e=.returned (if r=index then .tuple #[.int .u8 0,.bool false] else .tuple #[.int .u8 (gi (Jp l a n) (Iw index r)),.bool true]))/\Own w0 w' ((gf,A7m ga a n b m index row told st)::(ga,AR (.slice (some ⟨gd,0,none⟩) l.length l.length) live peak)::(gd,B l)::rs) ss):=h_ fun W hW=>A3G gf ga gd a n b m index l row told st live peak r w0 W rs ss hW h hr
 have CW:Hid (∀ W,AA W ga (AR (.slice (some ⟨gd,0,none⟩) l.length l.length) live peak)->AA W gd (B l)->Calls prog 120 #[.pointer (some ⟨ga,0,none⟩),.agg (SP b m),.int .i64 r] W fun e w'=>(e=.returned (.tuple #[.int .u32 (rowsOf (Jp l a n) index r),.bool true]))/\Below W.heap.size W w'):=h_ fun W h3 h4=>by have:=dW ga gd b m r l live peak W h3 h4 h.byt h.fit h.lim h.big (by have:=h.four;omega);rwa [hw] at this
 rw [if_neg he] at CY;rw [rowsOf,if_neg he] at CW;have hal:a+n<=l.length:=by have:=h.ap;have:=h.fit;have:=h.lim;omega
 have hcl:=A0d hal;have hab:=oI (A2Z (a:=a) (n:=n) h.byt) (Iw index r) (by rw [hcl];exact A0z h.i1 h.i2 hr he);have n2:=h.n2;rw [hcl] at hab;have w1:IntKind.i64.wrap (aft (Jp l a n) (Iw index r))=aft (Jp l a n) (Iw index r):=i_6;have w2:IntKind.i64.wrap (st+1)=st+1:=i_6;clear h hr he hw s0 s1 hab hal hcl;generalize aft (Jp l a n) (Iw index r)=r2 at *;generalize gi (Jp l a n) (Iw index r)=c at *;go_enter func73,ntmps73
 go_upto_region 2 with (first
  |(go_at_call 67;have _t:=hm;refine (CY.out _ hm).mono ?_;clear _t hm;rintro e w ⟨rfl,hm⟩))
 refine rO hm 9 (.rds [(0,false),(1,false),(2,false),(3,true),(4,false),(5,false),(6,false),(7,true),(8,false)] (.brk 9 15 (.rds [(10,false),(11,false),(12,false),(13,false),(14,false)] .done))) ?_;clear hm;intro w hm;simp only [KT.rds]
 iterate 3 refine kq ?_
 refine km (fun W hm=>ld 0 hm rfl rfl rfl (ot rfl) A3F) ?_
 iterate 3 refine kq ?_
 refine km (fun W hm=>ldp 0 hm rfl rfl rfl A6B (Eo _ _) A5A) ?_;refine kq ?_;refine PO rfl rfl (fun K hK=>?_);go_simp;refine (CW.out _ (hm.row 1 rfl) (hm.row 2 rfl)).mono ?_;rintro e w1 ⟨rfl,hb⟩;replace hm:=hm.call hb;clear hb;refine hK _ _ ⟨fun W=>Own _ W _ _,hm,?_⟩;clear hK K
 try simp only [Act.put,s3]
 iterate 5 refine kq ?_
 refine Ba ?_;go_simp
 go_wp2_with (first
  |(with_reducible first|(refine wl 3 0 hm ?_ (hv:=c_z A4V))|(refine wc 3 0 hm ?_ (hf:=c_z A6D) (hn:=c_z (A69 _));clear hm;intro w hm)))
 exact xf4
def wct (l:I_) (index:Nat):Nat->Nat->Int
|0,_=>0
|k+1,r=>if r=index then 0 else 1+wct l index k (aft l (Iw index r)).toNat
theorem A4x (gf ga gd a n b m index:Nat) (l:I_) (row told st live peak:Int) (w0 w:World) (rs:Rws) (ss:List Sl) (hm:Own w0 w ((gf,A7m ga a n b m index row told st)::(ga,AR (.slice (some ⟨gd,0,none⟩) l.length l.length) live peak)::(gd,B l)::rs) ss) (h:A3z l live a n b m index) (hw:∀ r,r<=n->w32 l (b+4 * r) 4=rowsOf (Jp l a n) index r) (s0:0<=st) (s1:st<=100000000000000):Calls prog 28 #[.pointer (some ⟨gf,0,none⟩)] w fun e w'=>(e=.returned (.bool (A30 (Jp l a n) index n 0)))/\Own w0 w' ((gf,A7m ga a n b m index row told (st+wct (Jp l a n) index n 0))::(ga,AR (.slice (some ⟨gd,0,none⟩) l.length l.length) live peak)::(gd,B l)::rs) ss:=by
 have hal:a+n<=l.length:=by have:=h.ap;have:=h.fit;have:=h.lim;omega
 have HCL:=h_ (A0d hal);have HCB:=h_ (A2Z (a:=a) (n:=n) h.byt);have hn2:=h.n2;have i1:=h.i1;have i2:=h.i2
 have CBH:Hid (∀ W (r:Nat) (st':Int),Own w0 W ((gf,A7m ga a n b m index row told st')::(ga,AR (.slice (some ⟨gd,0,none⟩) l.length l.length) live peak)::(gd,B l)::rs) ss->r<=n->0<=st'->st'<=1000000000000000->Calls prog 73 #[.pointer (some ⟨gf,0,none⟩),.int .i64 r] W fun e w'=>if r=index then (e=.returned (.tuple #[.int .i64 0,.int .u8 0,.bool false]))/\Own w0 w' ((gf,A7m ga a n b m index row told st')::(ga,AR (.slice (some ⟨gd,0,none⟩) l.length l.length) live peak)::(gd,B l)::rs) ss else (e=.returned (.tuple #[.int .i64 (aft (Jp l a n) (Iw index r)),.int .u8 (gi (Jp l a n) (Iw index r)),.bool true]))/\Own w0 w' ((gf,A7m ga a n b m index row told (st'+1))::(ga,AR (.slice (some ⟨gd,0,none⟩) l.length l.length) live peak)::(gd,B l)::rs) ss):=h_ fun W r st' hW hr h0 h1=>by
  by_cases he:r=index
  ·simp only [if_pos he];exact A3L gf ga gd a n b m index l row told st' live peak r w0 W rs ss hW h hr (hw r hr) h0 h1 he
  ·simp only [if_neg he];exact A3U gf ga gd a n b m index l row told st' live peak r w0 W rs ss hW h hr (hw r hr) h0 h1 he
 obtain ⟨bv,hbv⟩:∃ bv,bv=A30 (Jp l a n) index n 0:=⟨_,rfl⟩;obtain ⟨sv,hsv⟩:∃ sv,sv=wct (Jp l a n) index n 0:=⟨_,rfl⟩;rw [<- hbv,<- hsv];have HBV:=h_ hbv;have HSV:=h_ hsv;clear hbv hsv h hal hw;go_enter func28,ntmps28
 go_wp2_with (first
 |(go_at_call 73;have _t:=hm;refine (CB.out _ hm).mono ?_;clear _t hm;rintro e w ⟨rfl,hm⟩)
 |(with_reducible refine wl 3 0 hm ?_ (hv:=(by with_unfolding_all (first|exact A3g|exact A3k)))))
 go_loopw [3,14] (fun z u wr=>∃ (j r:Nat) (s1:Int),j<=n/\r<=n/\u=.int .i64 j/\z=.int .i64 r/\0<=s1/\s1<=j/\bv=A30 (Jp l a n) index (n - j) r/\sv=s1+wct (Jp l a n) index (n - j) r/\Own w0 wr ((gf,A7m ga a n b m index row told (st+s1))::(ga,AR (.slice (some ⟨gd,0,none⟩) l.length l.length) live peak)::(gd,B l)::rs) ss) (fun _ u _=>n - (intOf u).toNat)
 case atStart=>exact ⟨0,0,0,by omega,by omega,rfl,rfl,by omega,by omega,HBV.out,by rw [Int.zero_add];exact HSV.out,by rw [Int.add_zero];exact hm⟩
 case round =>
  clear hm;obtain ⟨j,r,s1,hj,hr,rfl,rfl,s10,s11,hb,hs,hm⟩:=hrel;by_cases hlt:j < n
  ·obtain ⟨i,hi⟩:∃ i,n - j=i+1:=⟨n - j - 1,by omega⟩;rw [hi,A30] at hb;rw [hi,wct] at hs;have CB:=h_ (fun W hW=>CBH.out W r (st+s1) hW hr (by omega) (by omega));by_cases he:r=index
   ·simp only [if_pos he] at CB;rw [if_pos he] at hb hs;rw [Int.add_zero] at hs;subst hb hs;clear he
    go_wp2_with (first
     |(go_at_call 73;have _t:=hm;refine (CB.out _ hm).mono ?_;clear _t hm;rintro e w ⟨rfl,hm⟩)
     |(with_reducible refine wl 3 0 hm ?_ (hv:=(by with_unfolding_all (first|exact A3g|exact A3k)))))
    exact xg8
   ·simp only [if_neg he] at CB;rw [if_neg he] at hb hs;have hpl:Iw index r < n:=A0z i1 i2 hr he;obtain ⟨e1,e2⟩:=A4u HCB.out (Iw index r) (by rw [HCL.out];exact hpl);rw [HCL.out] at e2;rw [<- e1] at CB;have HB2:=h_ hb;have HS2:=h_ hs;clear hb hs he e1;generalize (aft (Jp l a n) (Iw index r)).toNat=r2 at *;generalize gi (Jp l a n) (Iw index r)=c at *
    go_wp2_with (first
     |(go_at_call 73;have _t:=hm;refine (CB.out _ hm).mono ?_;clear _t hm;rintro e w ⟨rfl,hm⟩)
     |(with_reducible refine wl 3 0 hm ?_ (hv:=(by with_unfolding_all (first|exact A3g|exact A3k)))))
    go_roundw
    case rel=>exact ⟨j+1,r2,s1+1,by omega,e2,by go_num,rfl,by omega,by omega,by rw [show n - (j+1)=i by omega];exact HB2.out,by rw [HS2.out,show n - (j+1)=i by omega];omega,by rw [show st+(s1+1)=st+s1+1 by omega];exact hm⟩
    case measure=>simp [intOf];omega
  ·obtain rfl:n=j:=by omega
   rw [Nat.sub_self,A30] at hb;rw [Nat.sub_self,wct,Int.add_zero] at hs;subst hb hs
   have q1:((r:Int) == index)=decide (r=index):=by
    exact xfb
   generalize hbb:decide (r=index)=bb at *;have HBB:=h_ hbb;clear hbb
   go_wp2_with (first
    |(go_at_call 73;have _t:=hm;refine (CB.out _ hm).mono ?_;clear _t hm;rintro e w ⟨rfl,hm⟩)
    |(with_reducible refine wl 3 0 hm ?_ (hv:=(by with_unfolding_all (first|exact A3g|exact A3k)))))
   go_ret;exact ⟨by rw [HBB.out];rfl,hm⟩
theorem A51 (gf:Nat) (pa:Value) (la ln rb rm ix row told st:Int) (w0 w:World) (rs:Rws) (ss:List Sl) (hm:Own w0 w ((gf,FL pa la ln rb rm ix row told st)::rs) ss):Calls prog 313 #[.pointer (some ⟨gf,0,none⟩)] w fun e w'=>(e=.returned (.int .i64 told))/\w'=w:=by
 go_enter func313,ntmps313
 go_wp2_with (first
  |(with_reducible refine wl 3 0 hm ?_ (hv:=c_z A3q)))
 exact xg7
theorem A4y (gf:Nat) (pa:Value) (la ln rb rm ix row told st:Int) (w0 w:World) (rs:Rws) (ss:List Sl) (hm:Own w0 w ((gf,FL pa la ln rb rm ix row told st)::rs) ss):Calls prog 312 #[.pointer (some ⟨gf,0,none⟩)] w fun e w'=>(e=.returned (.int .i64 st))/\w'=w:=by
 go_enter func312,ntmps312
 go_wp2_with (first
  |(with_reducible refine wl 3 0 hm ?_ (hv:=c_z A4V)))
 exact xg7
theorem A4z (gf:Nat) (pa:Value) (la ln rb rm ix row told st:Int) (w0 w:World) (rs:Rws) (ss:List Sl) (hm:Own w0 w ((gf,FL pa la ln rb rm ix row told st)::rs) ss):Calls prog 311 #[.pointer (some ⟨gf,0,none⟩)] w fun e w'=>(e=.returned (.tuple #[]))/\Own w0 w' ((gf,FL pa la ln rb rm ix 0 0 st)::rs) ss:=by
 go_enter func311,ntmps311
 go_wp2_with (first
  |(with_reducible refine gSt (t:=3) ?_;(refine Ad rfl (AZ 0 hm rfl rfl UU rfl (ot rfl) (by first|exact A4q|exact A4e) rfl rfl (by first|exact (A4d _)|exact (A3P _)) ?_);clear hm;intro w hm;try simp only [puts,s2,List.set] at hm)))
 go_end0
 exact ⟨rfl,hm⟩
theorem A52 (gf ga gd a n b m index:Nat) (l:I_) (row told st live peak:Int) (w0 w:World) (rs:Rws) (ss:List Sl) (hm:Own w0 w ((gf,A7m ga a n b m index row told st)::(ga,AR (.slice (some ⟨gd,0,none⟩) l.length l.length) live peak)::(gd,B l)::rs) ss) (h:A3z l live a n b m index) (hw:∀ r,r<=n->w32 l (b+4 * r) 4=rowsOf (Jp l a n) index r) (s0:0<=st) (s1:st<=100000000000000) (ht:told=n):Calls prog 30 #[.pointer (some ⟨gf,0,none⟩)] w fun e w'=>(e=.returned (.tuple #[.int .u8 0,.bool false]))/\Own w0 w' ((gf,A7m ga a n b m index row told st)::(ga,AR (.slice (some ⟨gd,0,none⟩) l.length l.length) live peak)::(gd,B l)::rs) ss:=by
 subst ht;clear h hw s0 s1;go_enter func30,ntmps30
 go_upto_region 1 with fail
 refine rO hm 14 (.rds [(0,false),(1,false),(2,false),(3,false),(4,false),(5,false),(6,true),(7,false),(8,false),(9,false),(10,false),(11,true),(12,false),(13,false)] .done) ?_;clear hm;intro w hm;simp only [KT.rds]
 iterate 3 refine kq ?_
 (first|refine kq ?_|(refine Bz rfl rfl ?_))
 try simp only [Act.put,s3]
 (first|refine kq ?_|(refine Bz rfl rfl ?_))
 try simp only [Act.put,s3]
 (first|refine kq ?_|(refine Bz rfl rfl ?_))
 try simp only [Act.put,s3]
 (first|(refine K_m rfl rfl (fun W hm=>ld 0 hm rfl rfl rfl (ot rfl) A3q) ?_)|(refine D6 rfl rfl ?_))
 try simp only [Act.put,s3]
 (first|refine kq ?_|(refine Bz rfl rfl ?_))
 try simp only [Act.put,s3]
 (first|refine kq ?_|(refine Bz rfl rfl ?_))
 try simp only [Act.put,s3]
 (first|refine kq ?_|(refine Bz rfl rfl ?_))
 try simp only [Act.put,s3]
 (first|refine kq ?_|(refine Bz rfl rfl ?_))
 try simp only [Act.put,s3]
 (first|(refine K_m rfl rfl (fun W hm=>ld 0 hm rfl rfl rfl (ot rfl) A3k) ?_)|(refine D6 rfl rfl ?_))
 exact xc1
theorem A5F (gf ga gd a n b m index:Nat) (l:I_) (r k:Nat) (st live peak:Int) (w0 w:World) (rs:Rws) (ss:List Sl) (hm:Own w0 w ((gf,A7m ga a n b m index r k st)::(ga,AR (.slice (some ⟨gd,0,none⟩) l.length l.length) live peak)::(gd,B l)::rs) ss) (h:A3z l live a n b m index) (hw:∀ j,j<=n->w32 l (b+4 * j) 4=rowsOf (Jp l a n) index j) (s0:0<=st) (s1:st<=100000000000000) (hr:r<=n) (hk:k < n) (he:r ≠ index):Calls prog 30 #[.pointer (some ⟨gf,0,none⟩)] w fun e w'=>(e=.returned (.tuple #[.int .u8 (gi (Jp l a n) (Iw index r)),.bool true]))/\Own w0 w' ((gf,A7m ga a n b m index (aft (Jp l a n) (Iw index r)) (k+1) (st+1))::(ga,AR (.slice (some ⟨gd,0,none⟩) l.length l.length) live peak)::(gd,B l)::rs) ss:=by
 obtain ⟨r0,hr0⟩:∃ r0:Nat,r0=r:=⟨r,rfl⟩
 have CB0:Hid (∀ W (r:Nat) (st':Int),Own w0 W ((gf,A7m ga a n b m index r0 k st')::(ga,AR (.slice (some ⟨gd,0,none⟩) l.length l.length) live peak)::(gd,B l)::rs) ss->r<=n->0<=st'->st'<=1000000000000000->Calls prog 73 #[.pointer (some ⟨gf,0,none⟩),.int .i64 r] W fun e w'=>if r=index then (e=.returned (.tuple #[.int .i64 0,.int .u8 0,.bool false]))/\Own w0 w' ((gf,A7m ga a n b m index r0 k st')::(ga,AR (.slice (some ⟨gd,0,none⟩) l.length l.length) live peak)::(gd,B l)::rs) ss else (e=.returned (.tuple #[.int .i64 (aft (Jp l a n) (Iw index r)),.int .u8 (gi (Jp l a n) (Iw index r)),.bool true]))/\Own w0 w' ((gf,A7m ga a n b m index r0 k (st'+1))::(ga,AR (.slice (some ⟨gd,0,none⟩) l.length l.length) live peak)::(gd,B l)::rs) ss):=h_ fun W r st' hW hr h0 h1=>by
   by_cases he:r=index
   ·simp only [if_pos he];exact A3L gf ga gd a n b m index l r0 k st' live peak r w0 W rs ss hW h hr (hw r hr) h0 h1 he
   ·simp only [if_neg he];exact A3U gf ga gd a n b m index l r0 k st' live peak r w0 W rs ss hW h hr (hw r hr) h0 h1 he
 subst hr0;have CB:=h_ (fun W hW=>CB0.out W r0 st hW hr s0 (by omega));have hn2:=h.n2;have q1:((k:Int) == n)=false:=by simp;omega
 have w1:IntKind.i64.wrap ((k:Int)+1)=(k:Int)+1:=i_6;simp only [if_neg he] at CB;clear h hw s0 s1 he hr CB0;generalize aft (Jp l a n) (Iw index r0)=r2 at *;generalize gi (Jp l a n) (Iw index r0)=c at *;go_enter func30,ntmps30
 go_upto_region 1 with fail
 refine rO hm 14 (.rds [(0,false),(1,false),(2,false),(3,false),(4,false),(5,false),(6,true),(7,false),(8,false),(9,false),(10,false),(11,true),(12,false),(13,false)] .done) ?_;clear hm;intro w hm;simp only [KT.rds]
 iterate 3 refine kq ?_
 (first|refine kq ?_|(refine Bz rfl rfl ?_))
 try simp only [Act.put,s3]
 (first|refine kq ?_|(refine Bz rfl rfl ?_))
 try simp only [Act.put,s3]
 (first|refine kq ?_|(refine Bz rfl rfl ?_))
 try simp only [Act.put,s3]
 (first|(refine K_m rfl rfl (fun W hm=>ld 0 hm rfl rfl rfl (ot rfl) A3q) ?_)|(refine D6 rfl rfl ?_))
 try simp only [Act.put,s3]
 (first|refine kq ?_|(refine Bz rfl rfl ?_))
 try simp only [Act.put,s3]
 (first|refine kq ?_|(refine Bz rfl rfl ?_))
 try simp only [Act.put,s3]
 (first|refine kq ?_|(refine Bz rfl rfl ?_))
 try simp only [Act.put,s3]
 (first|refine kq ?_|(refine Bz rfl rfl ?_))
 try simp only [Act.put,s3]
 (first|(refine K_m rfl rfl (fun W hm=>ld 0 hm rfl rfl rfl (ot rfl) A3k) ?_)|(refine D6 rfl rfl ?_))
 try simp only [Act.put,s3]
 (first|refine kq ?_|(refine Bz rfl rfl ?_))
 try simp only [Act.put,s3]
 refine kq ?_;refine Ba ?_;go_simp
 go_wp2_with (first
  |(go_at_call 73;have _t:=hm;refine (CB.out _ hm).mono ?_;clear _t hm;rintro e w ⟨rfl,hm⟩)
  |(with_reducible refine wl 3 0 hm ?_ (hv:=(by with_unfolding_all (first|exact A6c|exact A3q))))
  |(with_reducible refine wc 3 0 hm ?_ (hf:=(by with_unfolding_all (first|exact A4q|exact A4e))) (hn:=(by with_unfolding_all (first|exact (A4d _)|exact (A3P _))));clear hm;intro w hm))
 go_ret2
 exact ⟨rfl,hm⟩
structure Wrote (col l l2:I_) (b index k:Nat):Prop where
 len:l2.length=l.length
 byt:Bytes l2
 out:∀ i,i < b->gi l2 i=gi l i
 word:∀ r,r < k->w32 l2 (b+4 * r) 4=rowsOf col index r
theorem Wrote.set {col l l2:I_} {b index k:Nat} (h:Wrote col l l2 b index k) (hf:b+4 * k+4<=l.length) {v:Int} (hv:v=rowsOf col index k) (v0:0<=v) (v1:v < 4294967296):Wrote col l (stw l2 (b+4 * k) v 4) b index (k+1):=by
 have hl:=h.len;refine ⟨by rw [Xd,hl],V8 h.byt 4,fun i hi=>?_,fun r hr=>?_⟩
 ·exact xhe
 ·by_cases e:r=k
  ·subst e;rw [yX (by omega) v0 v1,hv]
  ·rw [aF (by omega) (by omega)];exact h.word r (by omega)
theorem A57 {l:I_} (hb:Bytes l) {index r:Nat} (h1:1<=index) (h2:index<=l.length) (hr:r<=l.length):0<=rowsOf l index r/\rowsOf l index r<=l.length:=by
 rw [rowsOf];split
 ·omega
 ·rename_i h;have:=oI hb (Iw index r) (A0z h1 h2 hr h);omega
theorem A5D (ga:Nat) (dv:Value) (live peak:Int) (a n b m:Nat) (w0:World) (hr:AA w0 ga (AR dv live peak)) (n1:1<=n) (n2:n<=65536) (ap:a+n<=b) (fit:(b:Int)+m<=live) (four:4 * (n+1)<=m) (lim:live<=1048576):Calls prog 65 #[.pointer (some ⟨ga,0,none⟩),.agg (SP a n),.agg (SP b m)] w0 (RB w0 (.bool true)):=by
 have CH:Hid (∀ W (x y:Nat),(x=a/\y=n\/x=b/\y=m)->Below w0.heap.size w0 W->Calls prog 64 #[.pointer (some ⟨ga,0,none⟩),.agg (SP x y)] W fun e w'=>(e=.returned (.bool true))/\Below W.heap.size W w'):=h_ fun W x y hxy h=>vZ ga dv live peak x y W (hr.keep W h) (by omega) (by omega) (by omega) lim;have q1:decide ((n:Int) < 1)=false:=d_f;have q2:decide (65536 < (n:Int))=false:=d_f;have w1:IntKind.i64.wrap ((n:Int)+1)=(n:Int)+1:=i_6;have w2:IntKind.i64.wrap (4 * ((n:Int)+1))=4 * ((n:Int)+1):=i_6;have q3:decide ((m:Int) < 4 * ((n:Int)+1))=false:=d_f;have w3:IntKind.i64.wrap ((a:Int)+n)=(a:Int)+n:=i_6;have q4:decide ((a:Int)+n<=b)=true:=d_t;clear hr;go_enter func65,ntmps65;have hm:=Own.nil w0
 go_wp2_with (first
  |(go_at_call 64;refine cB (CH.out _ _ _ (by first|exact .inl ⟨rfl,rfl⟩|exact .inr ⟨rfl,rfl⟩) hm.below) hm ?_;clear hm;intro w1 hm)
  |(with_reducible refine wb hm ?_;clear hm;first|(have _t:=g2;intro w g3 hm)|(have _t:=g1;intro w g2 hm)|intro w g1 hm)
  |(with_reducible (first|refine wl 3 0 hm ?_ (hv:=(by with_unfolding_all (first|exact (SP0 _ _)|exact (SP1 _ _))))|refine wl 3 1 hm ?_ (hv:=(by with_unfolding_all (first|exact (SP0 _ _)|exact (SP1 _ _))))))
  |(with_reducible (first|refine wla 50 0 hm ?_ (ht:=c_z (Eo _ _))|refine wla 50 1 hm ?_ (ht:=c_z (Eo _ _)))))
 go_ret;exact xg6
theorem zrFL (w:World):(zeroValue 114).run prog w=.ok (.agg (FL (.pointer none) 0 0 0 0 0 0 0 0)) w:=by kernel_rfl
theorem A4h {o:Oper} {a:Act} {w:World} {x y z u:Operand} (ho:o.op=.build 114 #[(0,x),(1,y),(2,z),(3,u)]) {p:Value} {la ln rb rm ix:Int} (hx:a.eval x=p) (hp:p.cells=#[p]) (hy:a.eval y=.agg (SP la ln)) (hz:a.eval z=.agg (SP rb rm)) (hu:a.eval u=.int .i64 ix) :
  (execOp a.eval o).run prog w=.ok (.value (.agg (FL p la ln rb rm ix 0 0 0))) w:=by
 refine Dq ho ?_;rw [VT (places:=[(0,1),(1,2),(3,2),(5,1),(6,1),(7,1),(8,1)]) (by kernel_rfl) (by kernel_rfl) zrFL (by kernel_rfl) w];simp only [l_y,List.map_cons,List.map_nil,hx,hy,hz,hu];rw [VG rfl hp (by rw [A3d];omega) (A6a p)]
 rw [show SP la ln=([Value.int .i64 la,.int .i64 ln]:L_).toArray from rfl,Zj [Value.int .i64 la,.int .i64 ln] (n:=2) (ns:=FL p la ln 0 0 0 0 0 0) rfl rfl (by rw [A3d];omega) (by
  show splice ([p]++([Value.int .i64 0,.int .i64 0]++[Value.int .i64 0,.int .i64 0,.int .i64 0,.int .i64 0,.int .i64 0,.int .i64 0])).toArray 1 _=_
  exact bn (off:=1) (P:=[p]) rfl rfl)]
 rw [show SP rb rm=([Value.int .i64 rb,.int .i64 rm]:L_).toArray from rfl,Zj [Value.int .i64 rb,.int .i64 rm] (n:=2) (ns:=FL p la ln rb rm 0 0 0 0) rfl rfl (by rw [A3d];omega) (by
  show splice ([p,Value.int .i64 la,.int .i64 ln]++([Value.int .i64 0,.int .i64 0]++[Value.int .i64 0,.int .i64 0,.int .i64 0,.int .i64 0])).toArray 3 _=_
  exact bn (off:=3) (P:=[p,Value.int .i64 la,.int .i64 ln]) rfl rfl)]
 rw [VG rfl rfl (by rw [A3d];omega) (A6b ix)];rfl
section
variable {w0 w:World} {p q r s t u:Nat × A_} {rs:Rws} {ss:List Sl}
theorem Own.pick6 (h:Own w0 w (p::q::r::s::t::u::rs) ss):Own w0 w (q::t::u::p::r::s::rs) ss:=h.perm (by
 refine List.Perm.trans ?_ (List.Perm.swap p q _);refine List.Perm.cons q ?_
 exact ((List.perm_append_comm (l₁:=[t,u]) (l₂:=[p,r,s])).append_right rs))
theorem Own.A6F (h:Own w0 w (q::t::u::p::r::s::rs) ss):Own w0 w (p::q::r::s::t::u::rs) ss:=h.perm (List.Perm.symm (by
 refine List.Perm.trans ?_ (List.Perm.swap p q _);refine List.Perm.cons q ?_
 exact ((List.perm_append_comm (l₁:=[t,u]) (l₂:=[p,r,s])).append_right rs)))
theorem Own.pickf (h:Own w0 w (p::q::r::s::t::u::rs) ss):Own w0 w (q::t::u::rs) ss:=h.sub (List.Sublist.cons _ (List.Sublist.cons_cons _ (List.Sublist.cons _ (List.Sublist.cons _ (List.Sublist.refl _))))) (List.Sublist.refl _)
end
theorem A5G (ga gd a n b m index:Nat) (l:I_) (live peak:Int) (w0 w:World) (rs:Rws) (ss:List Sl) (hm:Own w0 w ((ga,AR (.slice (some ⟨gd,0,none⟩) l.length l.length) live peak)::(gd,B l)::rs) ss) (h:A3z l live a n b m index):Calls prog 25 #[.pointer (some ⟨ga,0,none⟩),.agg (SP a n),.int .i64 index,.agg (SP b m)] w fun e w'=>∃ (gf:Nat) (l2:I_),(e=.returned (.tuple #[.pointer (some ⟨gf,0,none⟩),.int .i64 0]))/\l2.length=l.length/\Jp l2 a n=Jp l a n/\(∀ i,i < b->gi l2 i=gi l i)/\A3z l2 live a n b m index/\(∀ r,r<=n->w32 l2 (b+4 * r) 4=rowsOf (Jp l2 a n) index r)/\Own w0 w' ((gf,A7m ga a n b m index 0 0 0)::(ga,AR (.slice (some ⟨gd,0,none⟩) l2.length l2.length) live peak)::(gd,B l2)::rs) ss:=by
 obtain ⟨n1,n2,ap,fit,four,lim,big,i1,i2,byt⟩:=h;have hal:a+n<=l.length:=by omega
 have HCL:Hid ((Jp l a n).length=n):=h_ (A0d hal);have HCB:Hid (Bytes (Jp l a n)):=h_ (A2Z byt);obtain ⟨col,hcol⟩:∃ col,col=Jp l a n:=⟨_,rfl⟩;have HCOL:=h_ hcol;rw [<- hcol] at HCL HCB ⊢;have CV:Hid (∀ W,AA W ga (AR (.slice (some ⟨gd,0,none⟩) l.length l.length) live peak)->Calls prog 65 #[.pointer (some ⟨ga,0,none⟩),.agg (SP a n),.agg (SP b m)] W fun e w'=>(e=.returned (.bool true))/\Below W.heap.size W w'):=h_ fun W hr=>A5D ga _ live peak a n b m W hr n1 n2 ap fit four (by omega)
 have CL:Hid (∀ W,AA W ga (AR (.slice (some ⟨gd,0,none⟩) l.length l.length) live peak)->AA W gd (B l)->Calls prog 66 #[.pointer (some ⟨ga,0,none⟩),.agg (SP a n)] W fun e w'=>(e=.returned (.agg (J .i64 (tab 256 (lsn col)))))/\Below W.heap.size W w'):=h_ fun W h3 h4=>by
  rw [hcol];exact A5K ga gd a n l live peak W h3 h4 byt (by omega) lim big (by omega)
 have q1:decide ((index:Int) < 1)=false:=d_f;have q2:decide ((n:Int) < index)=false:=d_f;have q3:decide (n < index)=false:=d_f;have wn:IntKind.i64.wrap ((n:Int)+1)=((n+1:Nat):Int):=by rw [IntWalk.i64_in _ (by omega)];push_cast;rfl
 have hz:Wrote col l l b index 0:=⟨rfl,byt,fun _ _=>rfl,fun r h=>by omega⟩;clear hcol hal byt;go_enter func25,ntmps25
 go_wp2_with (first
 |(go_at_call 65;refine cB (CV.out _ (hm.row 2 rfl)) hm ?_;clear hm;intro w1 hm)
 |(go_at_call 66;refine cB (CL.out _ (hm.row 3 rfl) (hm.row 4 rfl)) hm ?_;clear hm;intro w1 hm)
 |(with_reducible refine wb hm ?_;clear hm;first|(have _t:=g2;intro w gf hm)|(have _t:=g1;intro w g2 hm)|intro w g1 hm)
 |(with_reducible refine gBu ?_;(refine A8 rfl (A4h rfl rfl rfl rfl rfl rfl) ?_))
 |(with_reducible first|(refine wa 115 hm A4Y ?_;clear hm;intro w g11 hm)|(refine ws 115 0 hm ?_ (ht:=c_z (A4Q _)) (hs:=c_z (sz115 _ _)) (h1:=c_z (J_one _ _));clear hm;intro w hm))
 |(with_reducible (first|refine wl 3 0 hm ?_ (hv:=(by with_unfolding_all (first|exact (SP0 _ _)|exact (SP1 _ _))))|refine wl 3 1 hm ?_ (hv:=(by with_unfolding_all (first|exact (SP0 _ _)|exact (SP1 _ _))))|refine wl 3 2 hm ?_ (hv:=(by with_unfolding_all (first|exact (SP0 _ _)|exact (SP1 _ _))))|refine wl 3 3 hm ?_ (hv:=(by with_unfolding_all (first|exact (SP0 _ _)|exact (SP1 _ _))))))
 |(with_reducible (first|refine wla 50 0 hm ?_ (ht:=c_z (Eo _ _))|refine wla 50 1 hm ?_ (ht:=c_z (Eo _ _))|refine wla 50 2 hm ?_ (ht:=c_z (Eo _ _))|refine wla 50 3 hm ?_ (ht:=c_z (Eo _ _)))))
 have hm0:Own w0 w ((g11,J .i64 (tab 256 (FK col (Iw index 0))))::(gf,A7m ga a n b m index 0 0 0)::(g2,SP b m)::(g1,SP a n)::(ga,AR (.slice (some ⟨gd,0,none⟩) l.length l.length) live peak)::(gd,B l)::rs) ss:=by
  rw [Gi (f:=FK col (Iw index 0)) (g:=lsn col) (fun i _=>by rw [FK,show Iw index 0=0 by rw [Iw,if_neg (by omega)]];simp [eqn])];exact hm
 clear hm;have hm:=hm0;clear hm0
 go_loopw [43] (fun u wr=>∃ (k:Nat) (l2:I_),k<=n+1/\u=.int .i64 k/\Wrote col l l2 b index k/\Own w0 wr ((g11,J .i64 (tab 256 (FK col (Iw index k))))::(gf,A7m ga a n b m index 0 0 0)::(g2,SP b m)::(g1,SP a n)::(ga,AR (.slice (some ⟨gd,0,none⟩) l.length l.length) live peak)::(gd,B l2)::rs) ss) (fun u _=>n+1 - (intOf u).toNat)
 case atStart=>exact ⟨0,l,by omega,rfl,hz,hm⟩
 case round =>
  clear hm hz;obtain ⟨k,l2,hk,rfl,hW,hm⟩:=hrel;have hl2:=hW.len;by_cases hlt:k < n+1
  ·have q0:decide ((k:Int) < ((n+1:Nat):Int))=true:=d_t;have q0b:decide ((k:Int) < (n:Int)+1)=true:=d_t
   have hcol2:Jp l2 a n=col:=by
    rw [HCOL.out];exact A3J hl2 (by omega) (fun i _ h2=>hW.out i (by omega))
   have hbd:=A57 HCB.out (index:=index) (r:=k) i1 (by rw [HCL.out];exact i2) (by rw [HCL.out];omega);rw [HCL.out] at hbd
   have CY:Hid (∀ (W:World),Own w0 W ((g11,J .i64 (tab 256 (FK col (Iw index k))))::(gf,A7m ga a n b m index 0 0 0)::(g2,SP b m)::(g1,SP a n)::(ga,AR (.slice (some ⟨gd,0,none⟩) l.length l.length) live peak)::(gd,B l2)::rs) ss->Calls prog 67 #[.pointer (some ⟨gf,0,none⟩),.int .i64 k] W fun e w'=>(e=.returned (if k=index then .tuple #[.int .u8 0,.bool false] else .tuple #[.int .u8 (gi col (Iw index k)),.bool true]))/\Own w0 w' ((g11,J .i64 (tab 256 (FK col (Iw index k))))::(gf,A7m ga a n b m index 0 0 0)::(g2,SP b m)::(g1,SP a n)::(ga,AR (.slice (some ⟨gd,0,none⟩) l.length l.length) live peak)::(gd,B l2)::rs) ss):=h_ fun W hX=>by
    have hp:=A3G gf ga gd a n b m index l2 0 0 0 live peak k w0 W ((g11,J .i64 (tab 256 (FK col (Iw index k))))::(g2,SP b m)::(g1,SP a n)::rs) ss (by rw [hl2];exact hX.pick6) ⟨n1,n2,ap,fit,four,by omega,by omega,i1,i2,hW.byt⟩ (by omega);rw [hcol2] at hp;refine hp.mono fun e w' h=>⟨h.1,?_⟩;have h2:=h.2;rw [hl2] at h2;exact h2.A6F
   have CS:Hid (∀ (W:World) (f:Nat->Int),Own w0 W ((g11,J .i64 (tab 256 (f)))::(gf,A7m ga a n b m index 0 0 0)::(g2,SP b m)::(g1,SP a n)::(ga,AR (.slice (some ⟨gd,0,none⟩) l.length l.length) live peak)::(gd,B l2)::rs) ss->Calls prog 68 #[.pointer (some ⟨ga,0,none⟩),.agg (SP b m),.int .i64 k,.int .u32 (rowsOf col index k)] W fun e w'=>(e=.returned (.bool true))/\Own w0 w' ((g11,J .i64 (tab 256 (f)))::(gf,A7m ga a n b m index 0 0 0)::(g2,SP b m)::(g1,SP a n)::(ga,AR (.slice (some ⟨gd,0,none⟩) l.length l.length) live peak)::(gd,B (stw l2 (b+4 * k) (rowsOf col index k) 4))::rs) ss):=h_ fun W f hX=>A3V ga gd b m k l2 (rowsOf col index k) live peak w0 W _ ss 4 5 hX (by rw [hl2];rfl) rfl fit (by omega) (by omega) (by omega) hbd.1 (by omega) (by decide)
   have HW2:Hid (Wrote col l (stw l2 (b+4 * k) (rowsOf col index k) 4) b index (k+1)):=h_ (hW.set (by omega) rfl hbd.1 (by omega));have w5:IntKind.u32.wrap (rowsOf col index k)=rowsOf col index k:=IntWalk.u32_in _ (by omega);have HBD:=h_ hbd;clear hW hcol2 hbd;by_cases hi:k=index
   ·rw [if_pos hi] at CY;have hr0:rowsOf col index k=0:=by rw [rowsOf,if_pos hi]
    have HT:Hid (tab 256 (FK col (Iw index (k+1)))=tab 256 (FK col (Iw index k))):=h_ (by rw [show Iw index (k+1)=Iw index k by simp only [Iw];rw [if_pos (by omega),if_neg (by omega)];omega]);rw [hr0] at CS HW2;clear hi hr0 w5 HBD;have CS1:=h_ (CS.out · (FK col (Iw index k)));generalize tab 256 (FK col (Iw index k))=T1 at *
    go_wp2_with (first
     |(go_at_call 67;have _t:=hm;refine (CY.out _ hm).mono ?_;clear _t hm;rintro e w ⟨rfl,hm⟩)
     |(go_at_call 68;have _t:=hm;refine (CS1.out _ hm).mono ?_;clear _t hm;rintro e w ⟨rfl,hm⟩)
     |(with_reducible refine wl 3 2 hm ?_ (hv:=(by with_unfolding_all (first|exact (SP0 _ _)|exact (SP1 _ _)))))
     |(with_reducible refine wla 50 2 hm ?_ (ht:=c_z (Eo _ _))))
    go_roundw
    case rel=>exact ⟨k+1,_,by omega,by go_num,HW2.out,by rw [HT.out];exact hm⟩
    case measure=>simp [intOf];omega
   ·rw [if_neg hi] at CY;obtain ⟨p,hp⟩:∃ p,p=Iw index k:=⟨_,rfl⟩;have hpl:p < n:=by rw [hp];exact A0z i1 i2 (by omega) hi
    have hp1:p=if index < k then k - 1 else k:=hp
    have hp2:Iw index (k+1)=p+1:=by rw [Iw];split at hp1<;>split<;>omega
    have hs:=HCB.out (gi col p) (by rw [BZ col p (by rw [HCL.out];exact hpl)];exact List.getElem_mem _);obtain ⟨c,hc⟩:=Int.eq_ofNat_of_zero_le hs.1;have hc1:c < 256:=by omega
    have hrow:rowsOf col index k=FK col p c+1:=by rw [rowsOf,if_neg hi,aft,<- hp,hc,FK,Int.toNat_natCast];omega
    have hbd:=HBD.out;rw [hrow] at CS HW2 hbd w5;rw [<- hp] at CY hm;rw [hc] at CY;have w3:IntKind.i64.wrap (FK col p c+1)=FK col p c+1:=i_6;have HP:=h_ (kH .i64 (n:=256) (FK col p) (FK col (p+1)) c (FK col p c+1) (fun j _=>ZF (by rw [HCL.out];exact hpl) hc j));have HG:=h_ (PU .i64 (FK col p) hc1);have HG2:Hid ((J .i64 (tab 256 (FK col (p+1))))[c]?=some (.int .i64 (FK col p c+1))):=h_ (by rw [PU .i64 _ hc1,<- ZF (by rw [HCL.out];exact hpl) hc,if_pos rfl]);have HSZ:Hid (c < (J .i64 (tab 256 (FK col p))).size):=h_ (by rw [Df,Lm];exact hc1);have CS1:=h_ (CS.out · (FK col (p+1)));clear hs hc hbd hp1 hp hi HBD hrow CS;generalize FK col p c=z at *;generalize hT1:tab 256 (FK col p)=T1 at *;generalize hT2:tab 256 (FK col (p+1))=T2 at *
    go_wp2_with (first
     |(go_at_call 67;have _t:=hm;refine (CY.out _ hm).mono ?_;clear _t hm;rintro e w ⟨rfl,hm⟩)
     |(go_at_call 68;have _t:=hm;refine (CS1.out _ hm).mono ?_;clear _t hm;rintro e w ⟨rfl,hm⟩)
     |(with_reducible refine wl 3 2 hm ?_ (hv:=(by with_unfolding_all (first|exact (SP0 _ _)|exact (SP1 _ _)))))
     |(with_reducible refine wla 50 2 hm ?_ (ht:=c_z (Eo _ _)))
     |(with_reducible refine wl 3 0 hm ?_ (hv:=(by with_unfolding_all (first|exact HG.out|exact HG2.out))))
     |(with_reducible refine wc 3 0 hm ?_ (hf:=c_z HSZ.out) (hn:=c_z HP.out);clear hm;intro w hm))
    go_roundw
    case rel=>exact ⟨k+1,_,by omega,by go_num,HW2.out,by rw [hp2,hT2];exact hm⟩
    case measure=>simp [intOf];omega
  ·obtain rfl:k=n+1:=by omega
   have q0:decide (((n+1:Nat):Int) < ((n+1:Nat):Int))=false:=d_f;have hcol2:Jp l2 a n=Jp l a n:=A3J hl2 (by omega) (fun i _ h2=>hW.out i (by omega));have HE:=h_ (⟨hl2,by rw [hcol2,<- HCOL.out],hW.out,⟨n1,n2,ap,fit,four,by omega,by omega,i1,i2,hW.byt⟩,fun r hr=>by rw [hcol2,<- HCOL.out];exact hW.word r (by omega)⟩:l2.length=l.length/\Jp l2 a n=col/\(∀ i,i < b->gi l2 i=gi l i)/\A3z l2 live a n b m index/\(∀ r,r<=n->w32 l2 (b+4 * r) 4=rowsOf (Jp l2 a n) index r));clear hW;generalize tab 256 (FK col (Iw index (n+1)))=T at *;go_wp2
   go_ret2
   exact ⟨gf,l2,rfl,HE.out.1,HE.out.2.1,HE.out.2.2.1,HE.out.2.2.2.1,HE.out.2.2.2.2,by rw [hl2];exact hm.pickf⟩
end Go.Proofs.YtkpbhdhkdonghaaGreat
