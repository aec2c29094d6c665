/-
  Part 15 of the proof.
-/
import Derived.Test.YtkpbhdhkdonghaaGreatA11
set_option linter.all false
set_option maxHeartbeats 2000000
set_option maxRecDepth 100000
namespace Go.Proofs.YtkpbhdhkdonghaaGreat
open Go Tryz Go.RowKit
theorem Ce {l m:I_} {s b n d s' b' n' d':Int} (h:l.length=258) (k:m.length=258):(TS l s b n d).size=(TS m s' b' n' d').size:=by rw [Dy h,Dy k]
theorem UU {a:Act} {v:Value}:a.eval (.const v)=v:=rfl
theorem bY (n c:Int) (h0:0<=n) (h1:n < 4611686018427387904) (c0:0<=c) (c1:c<=1):bits .or .i64 (n * 2) c=2 * n+c:=by
 rw [show 2 * n+c=n * 2+c by omega];exact bits_join .i64 63 (by decide) (fun n h0 h1=>IntWalk.i64_in n (by omega)) 1 (n * 2) c (by omega) (by simp) (by omega) c0 (by omega) (by omega)
theorem dH (l:I_) (s b n d bit:Int) (w0:World) (hl:l.length=258) (hb:b=0\/b=1\/b=2\/b=3) (n0:0<=n) (n1:n<=15) (h0:0<=bit) (h1:bit<=1):Calls prog 144 #[.agg (TS l s b n d),.int .i64 bit] w0 (fun e w'=>(e=.returned (.tuple #[.agg (TS l s (b+1) (2 * n+bit) d),.bool (true)]))/\Below w0.heap.size w0 w'):=by
 have HL:=h_ hl;clear hl;have e1:bits .or .i64 (n * 2) bit=2 * n+bit:=bY n bit n0 (by omega) h0 h1;have w1:IntKind.i64.wrap (n * 2)=n * 2:=i_6;have q:decide (b < 4)=true:=d_t;have w2:IntKind.i64.wrap (b+1)=b+1:=i_6;clear n0 n1 h0 h1 hb;go_enter func144,ntmps144;have hm:=Own.nil w0
 go_wp2_with (first
  |(with_reducible refine wb hm ?_;clear hm;intro w g hm)
  |(with_reducible refine gAl ?_;(with_reducible refine wa _ hm Jz ?_;clear hm;intro w g2 hm))
  |(with_reducible refine wl 3 1 hm ?_ (hv:=(by with_unfolding_all (first|exact (Cb HL.out)|exact (CQ HL.out)))))
  |(with_reducible refine wla 141 1 hm ?_ (ht:=c_z (Bq HL.out)))
  |(with_reducible refine wc 3 1 hm ?_ (hf:=(by with_unfolding_all (first|exact (Es HL.out)|exact (JX HL.out)))) (hn:=(by with_unfolding_all (first|exact (GY HL.out _)|exact (IE HL.out _))));clear hm;intro w hm)
  |(with_reducible refine ws 141 0 hm ?_ (ht:=c_z (Bq HL.out)) (hs:=c_z (Ce HL.out Az)) (h1:=c_z (Di _ _ _ _ _));clear hm;intro w hm))
 exact xex
theorem mg (l:I_) (s b n d bit:Int) (w0:World) (hl:l.length=258) (hb:b=4) (hbit:bit=1):Calls prog 144 #[.agg (TS l s b n d),.int .i64 bit] w0 (fun e w'=>(e=.returned (.tuple #[.agg (TS l s 5 n d),.bool (true)]))/\Below w0.heap.size w0 w'):=by
 have HL:=h_ hl;clear hl;subst hb hbit;go_enter func144,ntmps144;have hm:=Own.nil w0
 go_wp2_with (first
  |(with_reducible refine wb hm ?_;clear hm;intro w g hm)
  |(with_reducible refine gAl ?_;(with_reducible refine wa _ hm Jz ?_;clear hm;intro w g2 hm))
  |(with_reducible first|(refine wl 3 1 hm ?_ (hv:=c_z (Cb HL.out)))|(refine wla 141 1 hm ?_ (ht:=c_z (Bq HL.out))))
  |(with_reducible refine gSt (t:=3) ?_;((refine Ad rfl (AZ 1 hm rfl rfl UU rfl (ot rfl) (by exact (Es HL.out)) rfl rfl (by exact (GY HL.out _)) ?_);clear hm;intro w hm;try simp only [puts,s2,List.set] at hm)))
  |(with_reducible refine ws 141 0 hm ?_ (ht:=c_z (Bq HL.out)) (hs:=c_z (Ce HL.out Az)) (h1:=c_z (Di _ _ _ _ _));clear hm;intro w hm))
 exact xex
theorem A0b (l:I_) (s b n d bit:Int) (w0:World) (hl:l.length=258) (hb:b=5) (hbit:bit=0) (n0:0<=n) (n1:n<=15):Calls prog 144 #[.agg (TS l s b n d),.int .i64 bit] w0 (fun e w'=>(e=.returned (.tuple #[.agg (TS l s 4 (n+1) 1),.bool (decide (d ≠ 2/\n < 15))]))/\Below w0.heap.size w0 w'):=by
 have HL:=h_ hl;clear hl;subst hb hbit;have w1:IntKind.i64.wrap (n+1)=n+1:=i_6;clear n0 n1;by_cases hd:d=2
 ·subst hd;rw [show decide (2 ≠ (2:Int)/\n < 15)=false by simp];exact xad
 have q0:(d == 2)=false:=by simpa using hd
 have q0b:(d != 2)=true:=by simpa using hd
 by_cases hc:n < 15
 ·have q1:decide (n < 15)=true:=decide_eq_true hc;rw [decide_eq_true ⟨hd,hc⟩];clear hd hc;exact xad
 ·have q1:decide (n < 15)=false:=decide_eq_false hc;exact xh0
theorem mF (l:I_) (s b n d bit:Int) (w0:World) (hl:l.length=258) (hb:b=5) (hbit:bit=1) (n0:0<=n) (n1:n<=15):Calls prog 144 #[.agg (TS l s b n d),.int .i64 bit] w0 (fun e w'=>(e=.returned (.tuple #[.agg (TS l s 4 (n - 1) 2),.bool (decide (d ≠ 1/\0 < n))]))/\Below w0.heap.size w0 w'):=by
 have HL:=h_ hl;clear hl;subst hb hbit;have w1:IntKind.i64.wrap (n - 1)=n - 1:=i_6;clear n0 n1;by_cases hd:d=1
 ·subst hd;rw [show decide (1 ≠ (1:Int)/\0 < n)=false by simp];exact xad
 have q0:(d == 1)=false:=by simpa using hd
 have q0b:(d != 1)=true:=by simpa using hd
 by_cases hc:0 < n
 ·have q1:decide (0 < n)=true:=decide_eq_true hc;rw [decide_eq_true ⟨hd,hc⟩];clear hd hc;exact xad
 ·have q1:decide (0 < n)=false:=decide_eq_false hc;exact xh0
theorem yu {l:I_} {s b n d:Int} (hl:l.length=258) {k:Nat} (hk:k < 258):k < (TS l s b n d).size:=by rw [Dy hl];omega
theorem jk {l:I_} (hl:l.length=258) (k:Nat) (n:Int):(l.set k n).length=258:=by rw [List.length_set,hl]
theorem uo (l:I_) (k:Nat) (n d:Int) (w0:World) (hl:l.length=258) (hk:k < 258) (n0:0<=n) (n1:n<=15) (hs:k+1 < 258):Calls prog 144 #[.agg (TS l k 4 n d),.int .i64 0] w0 (fun e w'=>(e=.returned (.tuple #[.agg (TS (l.set k n) (k+1) 4 n 0),.bool true]))/\Below w0.heap.size w0 w'):=by
 have HL:=h_ hl;have HM0:=h_ (jk hl k n);have HM:Hid True:=h_ trivial;have w1:IntKind.u8.wrap n=n:=IntWalk.u8_in _ (by omega);have w2:IntKind.i64.wrap ((k:Int)+1)=(k:Int)+1:=i_6;have q1:decide ((k:Int)+1 < 258)=true:=d_t;clear hl hs n0 n1;go_enter func144,ntmps144;have hm:=Own.nil w0
 go_upto_region 9 with (first
  |(with_reducible refine wb hm ?_;clear hm;intro w g hm)
  |(with_reducible refine gAl ?_;(with_reducible refine wa _ hm Jz ?_;clear hm;intro w g2 hm))
  |(with_reducible refine wl 3 1 hm ?_ (hv:=(by with_unfolding_all (first|exact (CJ HL.out)|exact (Cb HL.out)|exact (CQ HL.out)|exact (CJ HM.out)))))
  |(with_reducible refine wc 5 1 hm ?_ (hf:=c_z (yu HL.out hk)) (hn:=c_z (aj HL.out k hk n));clear hm;intro w hm;have HM:=HM0;have HL:Hid True:=h_ trivial)
  |(with_reducible refine gSt (t:=3) ?_;(first|(refine Ad rfl (AZ 1 hm rfl rfl (Ac rfl) rfl (ot rfl) (by first|exact (kD HM.out)|exact (Dz HM.out)) rfl rfl (by exact (ah HM.out _)) ?_);clear hm;intro w hm;try simp only [puts,s2,List.set] at hm)|(refine Ad rfl (AZ 1 hm rfl rfl UU rfl (ot rfl) (by exact (Dz HM.out)) rfl rfl (by exact (GX HM.out _)) ?_);clear hm;intro w hm;try simp only [puts,s2,List.set] at hm))))
 refine rO hm 9 (.rds [(0,true),(1,false),(2,true),(3,false),(4,false),(5,false),(6,true)] (.one 7 (.rds [(8,false)] (.brk 9 11 (.rds [(10,false)] .done))))) ?_;clear hm;intro w hm;simp only [KT.rds];refine km (fun W hm=>lda 1 hm rfl rfl rfl (Bq HM.out)) ?_;refine kq ?_;refine km (fun W hm=>ld 1 hm rfl rfl rfl (ot rfl) (CJ HM.out)) ?_
 iterate 2 refine kq ?_
 ((refine Bz rfl rfl ?_))
 try simp only [Act.put,s3]
 ((refine D6 rfl rfl ?_))
 try simp only [Act.put,s3]
 refine RX hm rfl rfl ?_
 try simp only [Act.put,s3]
 exact xb1
theorem mD (l:I_) (k:Nat) (n d:Int) (w0:World) (hl:l.length=258) (hk:k < 258) (n0:0<=n) (n1:n<=15) (hb:Bytes l) (hs:k+1=258):Calls prog 144 #[.agg (TS l k 4 n d),.int .i64 0] w0 (fun e w'=>(e=.returned (.tuple #[.agg (TS (l.set k n) (k+1) 4 n 0),.bool (JL (l.set k n))]))/\Below w0.heap.size w0 w'):=by
 have HL:=h_ hl;have HM0:=h_ (jk hl k n);have HM:Hid True:=h_ trivial;have w1:IntKind.u8.wrap n=n:=IntWalk.u8_in _ (by omega);have w2:IntKind.i64.wrap ((k:Int)+1)=(k:Int)+1:=i_6;have q1:decide ((k:Int)+1 < 258)=false:=d_f;have CT:=h_ (fun w=>table_any (l.set k n) w HM0.out (fun x hx=>by rcases List.mem_or_eq_of_mem_set hx with h|rfl;exact hb x h;omega));generalize JL (l.set k n)=z at *;clear hl hs n0 n1 hb;go_enter func144,ntmps144;have hm:=Own.nil w0
 go_upto_region 9 with (first
  |(with_reducible refine wb hm ?_;clear hm;intro w g hm)
  |(with_reducible refine gAl ?_;(with_reducible refine wa _ hm Jz ?_;clear hm;intro w g2 hm))
  |(with_reducible refine wl 3 1 hm ?_ (hv:=(by with_unfolding_all (first|exact (CJ HL.out)|exact (Cb HL.out)|exact (CQ HL.out)|exact (CJ HM.out)))))
  |(with_reducible refine wc 5 1 hm ?_ (hf:=c_z (yu HL.out hk)) (hn:=c_z (aj HL.out k hk n));clear hm;intro w hm;have HM:=HM0;have HL:Hid True:=h_ trivial)
  |(with_reducible refine gSt (t:=3) ?_;(first|(refine Ad rfl (AZ 1 hm rfl rfl (Ac rfl) rfl (ot rfl) (by first|exact (kD HM.out)|exact (Dz HM.out)) rfl rfl (by exact (ah HM.out _)) ?_);clear hm;intro w hm;try simp only [puts,s2,List.set] at hm)|(refine Ad rfl (AZ 1 hm rfl rfl UU rfl (ot rfl) (by exact (Dz HM.out)) rfl rfl (by exact (GX HM.out _)) ?_);clear hm;intro w hm;try simp only [puts,s2,List.set] at hm))))
 refine rO hm 9 (.rds [(0,true),(1,false),(2,true),(3,false),(4,false),(5,false),(6,true)] (.one 7 (.rds [(8,false)] (.brk 9 11 (.rds [(10,false)] .done))))) ?_;clear hm;intro w hm;simp only [KT.rds];refine km (fun W hm=>lda 1 hm rfl rfl rfl (Bq HM.out)) ?_;refine kq ?_;refine km (fun W hm=>ld 1 hm rfl rfl rfl (ot rfl) (CJ HM.out)) ?_
 iterate 3 refine kq ?_
 refine km (fun W hm=>ldp 1 hm rfl rfl rfl (Jv HM.out) (F5 HM.out) (L9 HM.out)) ?_;refine DJ rfl rfl (fun K hK=>?_);go_simp;refine (CT.out _).mono ?_;rintro e w1 ⟨rfl,hb⟩;replace hm:=hm.call hb;clear hb;refine hK _ _ ⟨fun W=>Own _ W _ _,fun _ h=>h,hm,?_⟩;clear hK K;exact xb1
theorem XB (l:I_) (s b n d:Int) (hl:l.length=258) (hb:4<=b) (w:World):Calls prog 209 #[.agg (TS l s b n d)] w (RB w (.bool false)):=by
 have HL:=h_ hl;have CW:Hid (∀ w,Calls prog 210 #[.int .i64 b,.int .i64 0,.int .i64 3] w fun x w'=>(x=.returned (.bool false))/\w'=w):=h_ fun w=>by have:=JH b 0 3 w;rwa [Ri (by omega)] at this
 clear hl hb;go_enter func209,ntmps209;have hm:=Own.nil w
 go_upto_region 1 with ((with_reducible refine wb hm ?_;clear hm;intro w g hm))
 refine rO hm 2 (.rds [(0,false),(1,true)] (.brk 2 10 (.rds [(3,false),(4,false),(5,true),(6,false),(7,true),(8,false),(9,false)] (.brk 10 22 (.rds [(11,false),(12,false),(13,true),(14,false),(15,true),(16,false),(17,true),(18,false),(19,false),(20,false),(21,false)] .done))))) ?_;clear hm;intro w hm;simp only [KT.rds];refine kq ?_;refine km (fun W hm=>ld 0 hm rfl rfl rfl (ot rfl) (Cb HL.out)) ?_;refine PO rfl rfl (fun K hK=>?_);go_simp;refine (CW.out _).mono ?_;rintro e w1 ⟨rfl,rfl⟩;refine hK _ _ ⟨fun W=>Own _ W _ _,hm,?_⟩;clear hK K;refine kq ?_
 ((refine Bz rfl rfl ?_))
 try simp only [Act.put,s3]
 ((refine D6 rfl rfl ?_))
 try simp only [Act.put,s3]
 ((refine Bz rfl rfl ?_))
 try simp only [Act.put,s3]
 ((refine D6 rfl rfl ?_))
 try simp only [Act.put,s3]
 ((refine Bz rfl rfl ?_))
 try simp only [Act.put,s3]
 ((refine Bz rfl rfl ?_))
 try simp only [Act.put,s3]
 refine xB hm rfl rfl ?_
 try simp only [Act.put,s3]
 iterate 2 refine kq ?_
 ((refine D6 rfl rfl ?_))
 try simp only [Act.put,s3]
 ((refine Bz rfl rfl ?_))
 try simp only [Act.put,s3]
 ((refine D6 rfl rfl ?_))
 try simp only [Act.put,s3]
 ((refine Bz rfl rfl ?_))
 try simp only [Act.put,s3]
 ((refine D6 rfl rfl ?_))
 try simp only [Act.put,s3]
 ((refine Bz rfl rfl ?_))
 try simp only [Act.put,s3]
 ((refine Bz rfl rfl ?_))
 exact xhr
theorem A0K (b n:Int) (hb:b=0\/b=1\/b=2\/b=3) (n0:0<=n) (n1:n < 2 ^ b.toNat) (w:World):Calls prog 209 #[.agg (TS Hf 0 b n 0)] w (RB w (.bool true)):=by
 have HL:=h_ Az;have CW:Hid (∀ w,Calls prog 210 #[.int .i64 b,.int .i64 0,.int .i64 3] w fun x w'=>(x=.returned (.bool true))/\w'=w):=h_ fun w=>by have:=JH b 0 3 w;rwa [Eu (by omega) (by omega)] at this
 have CN:Hid (∀ w,Calls prog 210 #[.int .i64 n,.int .i64 0,.int .i64 (2 ^ b.toNat - 1)] w fun x w'=>(x=.returned (.bool true))/\w'=w):=h_ fun w=>by have:=JH n 0 (2 ^ b.toNat - 1) w;rwa [Eu (by omega) (by omega)] at this
 clear n0 n1;rcases hb with rfl|rfl|rfl|rfl
 all_goals
  go_enter func209,ntmps209;have hm:=Own.nil w
  go_upto_region 1 with ((with_reducible refine wb hm ?_;clear hm;intro w g hm))
  refine rO hm 2 (.rds [(0,false),(1,true)] (.brk 2 10 (.rds [(3,false),(4,false),(5,true),(6,false),(7,true),(8,false),(9,false)] (.brk 10 22 (.rds [(11,false),(12,false),(13,true),(14,false),(15,true),(16,false),(17,true),(18,false),(19,false),(20,false),(21,false)] .done))))) ?_;clear hm;intro w hm;simp only [KT.rds];refine kq ?_;refine km (fun W hm=>ld 0 hm rfl rfl rfl (ot rfl) (Cb HL.out)) ?_;refine PO rfl rfl (fun K hK=>?_);go_simp;refine (CW.out _).mono ?_;rintro e w1 ⟨rfl,rfl⟩;refine hK _ _ ⟨fun W=>Own _ W _ _,hm,?_⟩;clear hK K
  iterate 2 refine kq ?_
  refine km (fun W hm=>ld 0 hm rfl rfl rfl (ot rfl) (CQ HL.out)) ?_;refine kq ?_;refine km (fun W hm=>ld 0 hm rfl rfl rfl (ot rfl) (Cb HL.out)) ?_
  ((refine K_p rfl rfl (fun W=>by go_simp;((rw [IntWalk.i64_in _ (by omega)];done))) ?_))
  try simp only [Act.put,s3]
  ((refine K_p rfl rfl (fun W=>by go_simp;((rw [IntWalk.i64_in _ (by omega)];done))) ?_))
  try simp only [Act.put,s3]
  refine PO rfl rfl (fun K hK=>?_);go_simp;refine (CN.out _).mono ?_;rintro e w1 ⟨rfl,rfl⟩;refine hK _ _ ⟨fun W=>Own _ W _ _,hm,?_⟩;clear hK K
  iterate 2 refine kq ?_
  refine km (fun W hm=>lda 0 hm rfl rfl rfl (Bq HL.out)) ?_;refine kq ?_;refine km (fun W hm=>ld 0 hm rfl rfl rfl (ot rfl) (Cb HL.out)) ?_;refine kq ?_;refine km (fun W hm=>ld 0 hm rfl rfl rfl (ot rfl) (CQ HL.out)) ?_
  ((refine K_p rfl rfl (fun W=>UQ rfl rfl rfl) ?_))
  try simp only [Act.put,s3]
  ((refine K_p rfl rfl (fun W=>dZ rfl rfl rfl HL.out) ?_))
  exact xhr
theorem XQ (b n:Int) (w0:World) (hb:b=0\/b=1\/b=2\/b=3) (n0:0<=n) (n1:n < 2 ^ b.toNat):Calls prog 167 #[.agg (TS Hf 0 b n 0)] w0 (fun e w'=>(e=.returned (.bool true))/\Below w0.heap.size w0 w'):=by
 have CB:=h_ (fun w=>A0K b n hb n0 n1 w);have HL:=h_ Az;clear hb n0 n1;go_enter func167,ntmps167;have hm:=Own.nil w0
 go_wp2_with (first
  |(go_at_call 209;refine cB (CB.out _) hm ?_;clear hm;intro w1 hm)
  |(with_reducible first|(refine wb hm ?_;clear hm;intro w g hm)|(refine wla 141 0 hm ?_ (ht:=c_z (Bq HL.out))))
   )
 go_ret;exact xg6
theorem qJ (l:I_) (s b n d:Int) (w0:World) (hl:l.length=258) (hb:b=4\/b=5) (hs:s=0) (n0:0<=n) (n1:n<=15) (hk:Known l s) (hd:d=0):Calls prog 167 #[.agg (TS l s b n d)] w0 (fun e w'=>(e=.returned (.bool true))/\Below w0.heap.size w0 w'):=by
 have CB:=h_ (fun w=>XB l s b n d hl (by omega) w);have CK:=h_ (fun w=>Oa l s b n d w hl hk);have HL:=h_ hl;have w1:wi b 4 5=true:=Eu (by omega) (by omega);have w2:wi s 0 258=true:=Eu (by omega) (by omega);have w3:wi n 0 15=true:=Eu n0 n1;have w4:wi d 0 2=true:=Eu (by omega) (by omega);subst hs hd;clear hb n0 n1 hk hl;exact xa2
theorem qI (l:I_) (s b n d:Int) (w0:World) (hl:l.length=258) (hb:b=4\/b=5) (hs:s=0) (n0:0<=n) (n1:n<=15) (hk:Known l s) (hd:d=1) (hn:0 < n):Calls prog 167 #[.agg (TS l s b n d)] w0 (fun e w'=>(e=.returned (.bool true))/\Below w0.heap.size w0 w'):=by
 have CB:=h_ (fun w=>XB l s b n d hl (by omega) w);have CK:=h_ (fun w=>Oa l s b n d w hl hk);have HL:=h_ hl;have w1:wi b 4 5=true:=Eu (by omega) (by omega);have w2:wi s 0 258=true:=Eu (by omega) (by omega);have w3:wi n 0 15=true:=Eu n0 n1;have w4:wi d 0 2=true:=Eu (by omega) (by omega);have q:decide (0 < n)=true:=decide_eq_true hn;subst hs hd;clear hb n0 n1 hk hl hn;exact xa2
theorem qH (l:I_) (s b n d:Int) (w0:World) (hl:l.length=258) (hb:b=4\/b=5) (hs:s=0) (n0:0<=n) (n1:n<=15) (hk:Known l s) (hd:d=2) (hn:n < 15):Calls prog 167 #[.agg (TS l s b n d)] w0 (fun e w'=>(e=.returned (.bool true))/\Below w0.heap.size w0 w'):=by
 have CB:=h_ (fun w=>XB l s b n d hl (by omega) w);have CK:=h_ (fun w=>Oa l s b n d w hl hk);have HL:=h_ hl;have w1:wi b 4 5=true:=Eu (by omega) (by omega);have w2:wi s 0 258=true:=Eu (by omega) (by omega);have w3:wi n 0 15=true:=Eu n0 n1;have w4:wi d 0 2=true:=Eu (by omega) (by omega);have q:decide (n < 15)=true:=decide_eq_true hn;subst hs hd;clear hb n0 n1 hk hl hn;exact xa2
theorem kP (l:I_) (k:Nat) (b n d:Int) (w0:World) (hl:l.length=258) (hb:b=4\/b=5) (hk0:k+1 < 258) (n0:0<=n) (n1:n<=15) (d0:0<=d/\d<=2) (hk:Known l (k+1)) (ht:turn (gi l k) n d=true):Calls prog 167 #[.agg (TS l (k+1) b n d)] w0 (fun e w'=>(e=.returned (.bool true))/\Below w0.heap.size w0 w'):=by
 have CB:=h_ (fun w=>XB l (k+1) b n d hl (by omega) w);have CK:=h_ (fun w=>Oa l (k+1) b n d w hl hk);have HL:=h_ hl;have w1:wi b 4 5=true:=Eu (by omega) (by omega);have w2:wi (k+1) 0 258=true:=Eu (by omega) (by omega);have w3:wi n 0 15=true:=Eu n0 n1;have w4:wi d 0 2=true:=Eu (by omega) (by omega);have q1:((k:Int)+1 == 0)=false:=by simp;omega
 have q2:((k:Int)+1 == 258)=false:=by simp;omega
 have e1:IntKind.i64.wrap ((k:Int)+1 - 1)=k:=by rw [IntWalk.i64_in _ (by omega)];omega
 have CT:Hid (∀ w,Calls prog 212 #[.int .i64 (gi l k),.int .i64 n,.int .i64 d] w fun e w'=>(e=.returned (.bool true))/\w'=w):=h_ fun w=>by have:=aO (gi l k) n d w;rwa [ht] at this
 have hk1:k < 258:=by omega
 have hx:=(hk k hk1).1;have e2:IntKind.i64.wrap (gi l k)=gi l k:=IntWalk.i64_in _ (by have:=(hk k hk1).2;omega);have HG:=h_ (A0X (s:=(k:Int)+1) (b:=b) (n:=n) (d:=d) hl k hk1);clear hb n0 n1 hk hl hk0 ht d0;generalize gi l k=x at *;go_enter func167,ntmps167;have hm:=Own.nil w0
 go_upto_region 10 with (first
  |(go_at_call 209;refine cB (CB.out _) hm ?_;clear hm;intro w1 hm)
  |(go_at_call 211;refine cB (CK.out _) hm ?_;clear hm;intro w1 hm)
  |(go_at_call 210;refine (JH _ _ _ _).mono ?_;rintro e w1 ⟨rfl,rfl⟩)
  |(with_reducible refine wb hm ?_;clear hm;intro w g hm)
  |(with_reducible refine wl 3 0 hm ?_ (hv:=(by with_unfolding_all (first|exact (CJ HL.out)|exact (Cb HL.out)|exact (CQ HL.out)|exact (E8 HL.out)))))
  |(with_reducible refine wla 141 0 hm ?_ (ht:=c_z (Bq HL.out)))
   )
 refine rO hm 11 (.rds [(0,false),(1,true),(2,false),(3,false),(4,false),(5,true),(6,false),(7,false),(8,true),(9,false),(10,true)] (.brk 11 13 (.rds [(12,false)] .done))) ?_;clear hm;intro w hm;simp only [KT.rds];refine kq ?_;refine km (fun W hm=>ld 0 hm rfl rfl rfl (ot rfl) (CJ HL.out)) ?_
 (refine K_p rfl rfl (fun W=>by go_simp;((rw [IntWalk.i64_in _ (by omega)];done))) ?_)
 try simp only [Act.put,s3]
 refine kq ?_
 (refine K_p rfl rfl (fun W=>by go_simp;rw [if_pos (by omega)]) ?_)
 try simp only [Act.put,s3]
 refine km (fun W hm=>ld 0 hm rfl rfl rfl (ot rfl) HG.out) ?_
 iterate 2 refine kq ?_
 refine km (fun W hm=>ld 0 hm rfl rfl rfl (ot rfl) (CQ HL.out)) ?_;refine kq ?_;refine km (fun W hm=>ld 0 hm rfl rfl rfl (ot rfl) (E8 HL.out)) ?_;refine PO rfl rfl (fun K hK=>?_);go_simp;refine (CT.out _).mono ?_;rintro e w1 ⟨rfl,rfl⟩;refine hK _ _ ⟨fun W=>Own _ W _ _,hm,?_⟩;clear hK K;refine kq ?_;refine Ba ?_;go_simp;go_wp2;go_ret;exact xg6
theorem Rk {k n d:Int} (h:turn k n d=true) (d0:0<=d) (d1:d<=2):d=0/\k=n\/d=1/\k < n\/d=2/\n < k:=by
 have:d=0\/d=1\/d=2:=by omega
 rcases this with rfl|rfl|rfl<;>simp [turn] at h<;>omega
theorem dK (t:TT) (h:t.ok) (w:World):Calls prog 167 #[.agg t.v] w (RB w (.bool true)):=by
 obtain ⟨l,s,b,n,d⟩:=t;obtain ⟨hl,hs,hb,hn,hd,hk,hf,hz1,hz2,ht⟩:=h;simp only [TT.v] at *;by_cases h4:b < 4
 ·obtain ⟨rfl,rfl,rfl,hp⟩:=hf h4;exact XQ b n w (by omega) hn.1 hp
 by_cases h0:s=0
 ·have:d=0\/d=1\/d=2:=by omega
  rcases this with rfl|rfl|rfl
  ·exact qJ l s b n _ w hl (by omega) h0 hn.1 hn.2 hk rfl
  ·exact qI l s b n _ w hl (by omega) h0 hn.1 hn.2 hk rfl (hz1 h0 rfl)
  ·exact qH l s b n _ w hl (by omega) h0 hn.1 hn.2 hk rfl (hz2 h0 rfl)
 ·obtain ⟨k,rfl⟩:∃ k:Nat,s=(k:Int)+1:=⟨(s - 1).toNat,by omega⟩;have ht:=ht (by omega);rw [show ((k:Int)+1).toNat - 1=k by omega] at ht;exact kP l k b n d w hl (by omega) (by omega) hn.1 hn.2 hd (by exact_mod_cast hk) ht
theorem A43 (t:TT) (bit:Int) (h:t.ok) (h0:0<=bit) (h1:bit<=1) (w:World):Calls prog 144 #[.agg t.v,.int .i64 bit] w (RB w (.tuple #[.agg (t.next bit).1.v,.bool (t.next bit).2])):=by
 obtain ⟨l,s,b,n,d⟩:=t;obtain ⟨hl,hs,hb,hn,hd,hk,hf,hz1,hz2,ht⟩:=h;simp only [TT.v,TT.next] at *;by_cases h4:b < 4
 ·rw [if_pos h4];exact dH l s b n d bit w hl (by omega) hn.1 hn.2 h0 h1
 rw [if_neg h4];have hbit:bit=0\/bit=1:=by omega
 by_cases h5:b=4
 ·subst h5;rw [if_pos rfl];rcases hbit with rfl|rfl
  ·rw [if_pos rfl];obtain ⟨k,rfl⟩:∃ k:Nat,s=(k:Int):=⟨s.toNat,by omega⟩;rw [Int.toNat_natCast];by_cases hl1:k+1 < 258
   ·have e:decide ((k:Int)+1 < 258)=true:=d_t;rw [e,Bool.true_or];exact uo l k n d w hl (by omega) hn.1 hn.2 hl1
   ·have e:decide ((k:Int)+1 < 258)=false:=d_f;rw [e,Bool.false_or];refine mD l k n d w hl (by omega) hn.1 hn.2 (fun x hx=>?_) (by omega);obtain ⟨i,hi,rfl⟩:=List.mem_iff_getElem.1 hx;have:=hk i (by omega);rw [BZ l i hi] at this;omega
  ·rw [if_neg (by decide)];exact mg l s 4 n d 1 w hl rfl rfl
 ·rw [if_neg h5];rcases hbit with rfl|rfl
  ·rw [if_pos rfl];exact A0b l s b n d 0 w hl (by omega) rfl hn.1 hn.2
  ·rw [if_neg (by decide)];exact mF l s b n d 1 w hl (by omega) rfl hn.1 hn.2
theorem kR (x:Int):turn x x 0=true:=by simp [turn]
theorem DY {l:I_} {i j:Nat} {x:Int} (h:i < l.length):gi (l.set i x) j=if j=i then x else gi l j:=by
 simp only [gi,List.getD,List.getElem?_set];by_cases e:i=j
 ·subst e;simp [h]
 ·rw [if_neg e,if_neg (fun h=>e h.symm)]
theorem TT.ok.next {t:TT} {bit:Int} (h:t.ok) (h0:0<=bit) (h1:bit<=1) (hk:(t.next bit).2=true):(t.next bit).1.s < 258/\(t.next bit).1.ok\/(t.next bit).1.s=258/\(t.next bit).1.l.length=258/\Bytes (t.next bit).1.l/\JL (t.next bit).1.l=true:=by
 obtain ⟨l,s,b,n,d⟩:=t;obtain ⟨hl,hs,hb,hn,hd,hkn,hf,hz1,hz2,ht⟩:=h;simp only [TT.next] at *;have hbit:bit=0\/bit=1:=by omega
 by_cases h4:b < 4
 ·rw [if_pos h4] at hk ⊢;obtain ⟨rfl,rfl,rfl,hp⟩:=hf h4;refine .inl ⟨by show (0:Int) < 258;omega,hl,hs,?_,?_,hd,hkn,?_,?_,?_,?_⟩
  ·simp only;omega
  ·exact xeb
  ·intro _;refine ⟨rfl,rfl,rfl,?_⟩;exact xeb
  ·intro _ h;simp at h
  ·intro _ h;simp at h
  ·intro h;simp at h
 rw [if_neg h4] at hk ⊢;by_cases h5:b=4
 ·subst h5;rw [if_pos rfl] at hk ⊢;rcases hbit with rfl|rfl
  ·rw [if_pos rfl] at hk ⊢;obtain ⟨k,rfl⟩:∃ k:Nat,s=(k:Int):=⟨s.toNat,by omega⟩;rw [Int.toNat_natCast] at hk ⊢;have hkl:k < l.length:=by omega
   have hK:Known (l.set k n) ((k:Int)+1):=by
    intro j hj;rw [DY hkl];have:=hkn j hj;by_cases e:j=k
    ·rw [if_pos e];omega
    ·rw [if_neg e];omega
   have hB:Bytes (l.set k n):=by
    intro x hx;obtain ⟨i,hi,rfl⟩:=List.mem_iff_getElem.1 hx;rw [List.length_set] at hi;have:=hK i (by omega);rw [BZ _ i (by rw [List.length_set];exact hi)] at this;omega
   by_cases hl1:k+1 < 258
   ·refine .inl ⟨by show (k:Int)+1 < 258;omega,by simp [hl],by simp only;omega,by simp,hn,by simp,hK,?_,?_,?_,?_⟩
    ·intro h;simp at h
    ·intro _ h;simp at h
    ·intro _ h;simp at h
    ·intro _;simp only;rw [show ((k:Int)+1).toNat - 1=k by omega,DY hkl,if_pos rfl];exact kR n
   ·have e:decide ((k:Int)+1 < 258)=false:=d_f;rw [e,Bool.false_or] at hk;exact .inr ⟨by show (k:Int)+1=258;omega,by simp [hl],hB,hk⟩
  ·rw [if_neg (by decide)] at hk ⊢;exact .inl ⟨hs.2,hl,hs,by simp,hn,hd,hkn,fun h=>by simp at h,hz1,hz2,ht⟩
 ·rw [if_neg h5] at hk ⊢;rcases hbit with rfl|rfl
  ·rw [if_pos rfl] at hk ⊢;have hk:=of_decide_eq_true hk;refine .inl ⟨hs.2,hl,hs,by simp,by simp only;omega,by simp,hkn,fun h=>by simp at h,?_,?_,?_⟩
   ·intro _ _;simp only;omega
   ·intro _ h;simp at h
   ·intro hp;have:=Rk (ht hp) hd.1 hd.2;have hlt:gi l (s.toNat - 1) < n+1:=by omega
    exact decide_eq_true hlt
  ·rw [if_neg (by decide)] at hk ⊢;have hk:=of_decide_eq_true hk;refine .inl ⟨hs.2,hl,hs,by simp,by simp only;omega,by simp,hkn,fun h=>by simp at h,?_,?_,?_⟩
   ·intro _ h;simp at h
   ·intro _ _;simp only;omega
   ·intro hp;have:=Rk (ht hp) hd.1 hd.2;have hlt:n - 1 < gi l (s.toNat - 1):=by omega
    exact decide_eq_true hlt
def TT0:TT:=⟨Hf,0,0,0,0⟩
theorem dO (s:Int):Known Hf s:=fun k hk=>by
 have:gi Hf k=0:=by rw [BZ Hf k (by rw [Az];exact hk)];exact uU (List.getElem_mem _)
 omega
theorem XK:TT0.ok:=⟨Az,by decide,by decide,by decide,by decide,dO 0,fun _=>⟨rfl,rfl,rfl,by decide⟩,fun _ h=>by simp [TT0] at h,fun _ h=>by simp [TT0] at h,fun h=>by simp [TT0] at h⟩
theorem dL (l:I_) (s b n d bit:Int) (l2:I_) (s2 b2 n2 d2:Int) (ok:Bool) (w0:World) (hl:l.length=258) (hl2:l2.length=258) (CV:Hid (∀ w,Calls prog 167 #[.agg (TS l s b n d)] w (RB w (.bool true)))) (CN:Hid (∀ w,Calls prog 144 #[.agg (TS l s b n d),.int .i64 bit] w (RB w (.tuple #[.agg (TS l2 s2 b2 n2 d2),.bool ok])))) (hs:s < 258) (hbit:bit=0\/bit=1) (hok:ok=false):Calls prog 126 #[.agg (TS l s b n d),.int .i64 bit] w0 (fun e w'=>(e=.returned (.tuple #[.agg (TS Hf 0 0 0 0),.bool (false),.int .i64 100]))/\Below w0.heap.size w0 w'):=by
 have HL:=h_ hl;have HM:=h_ hl2;have q1:(s == 258)=false:=by simp;omega
 have q2:bit / 2=0:=by omega
 clear hl hl2 hs;subst hok;rcases hbit with rfl|rfl
 all_goals
  go_enter func126,ntmps126;have hm:=Own.nil w0
  go_wp2_with (first
   |(go_at_call 167;refine cB (CV.out _) hm ?_;clear hm;intro w1 hm)
   |(go_at_call 144;refine cB (CN.out _) hm ?_;clear hm;intro w1 hm)
   |(with_reducible refine wb hm ?_;clear hm;intro w g hm)
   |(with_reducible refine gAl ?_;(with_reducible refine wa _ hm Jz ?_;clear hm;intro w g2 hm))
   |(with_reducible first|(refine wl 3 1 hm ?_ (hv:=c_z (CJ HL.out)))|(refine wla 141 1 hm ?_ (ht:=c_z (Bq HL.out)))|(refine wla 141 0 hm ?_ (ht:=c_z (Bq Az))))
   |(with_reducible (first|refine ws 141 1 hm ?_ (ht:=c_z (Bq HM.out)) (hs:=c_z (Ce HM.out HL.out)) (h1:=c_z (Di _ _ _ _ _))|refine ws 141 0 hm ?_ (ht:=c_z (Bq Az)) (h1:=c_z (Di _ _ _ _ _)));clear hm;intro w hm))
  refine b_r (Ae rfl rfl (hm.row 0 rfl) (Bq Az)) rfl ⟨rfl,hm.below⟩
theorem mV (l:I_) (s b n d bit:Int) (l2:I_) (s2 b2 n2 d2:Int) (ok:Bool) (w0:World) (hl:l.length=258) (hl2:l2.length=258) (CV:Hid (∀ w,Calls prog 167 #[.agg (TS l s b n d)] w (RB w (.bool true)))) (CN:Hid (∀ w,Calls prog 144 #[.agg (TS l s b n d),.int .i64 bit] w (RB w (.tuple #[.agg (TS l2 s2 b2 n2 d2),.bool ok])))) (hs:s < 258) (hbit:bit=0\/bit=1) (hok:ok=true):Calls prog 126 #[.agg (TS l s b n d),.int .i64 bit] w0 (fun e w'=>(e=.returned (.tuple #[.agg (TS l2 s2 b2 n2 d2),.bool (s2 == 258),.int .i64 0]))/\Below w0.heap.size w0 w'):=by
 have HL:=h_ hl;have HM:=h_ hl2;have q1:(s == 258)=false:=by simp;omega
 have q2:bit / 2=0:=by omega
 clear hl hl2 hs;subst hok;rcases hbit with rfl|rfl
 all_goals
  go_enter func126,ntmps126;have hm:=Own.nil w0
  go_upto_region 6 with (first
   |(go_at_call 167;refine cB (CV.out _) hm ?_;clear hm;intro w1 hm)
   |(go_at_call 144;refine cB (CN.out _) hm ?_;clear hm;intro w1 hm)
   |(with_reducible refine wb hm ?_;clear hm;intro w g hm)
   |(with_reducible refine gAl ?_;(with_reducible refine wa _ hm Jz ?_;clear hm;intro w g2 hm))
   |(with_reducible first|(refine wl 3 1 hm ?_ (hv:=c_z (CJ HL.out)))|(refine wla 141 1 hm ?_ (ht:=c_z (Bq HL.out)))|(refine ws 141 1 hm ?_ (ht:=c_z (Bq HM.out)) (hs:=c_z (Ce HM.out HL.out)) (h1:=c_z (Di _ _ _ _ _));clear hm;intro w hm)))
  refine BQ hm 7 (.rds [(0,true),(1,false),(2,true),(3,false)] (.one 4 (.rds [(5,false),(6,false)] .done))) rfl (by kernel_rfl) rfl (by kernel_rfl) (fun _ _ d _ _ h=>by cases d<;>exact h) ?_;clear hm;intro w hm;simp only [KT.rds];refine km (fun W hb=>have hm:=hb.own;lda 0 hm rfl rfl rfl (Bq HM.out)) ?_;refine kq ?_;refine km (fun W hb=>have hm:=hb.own;ld 0 hm rfl rfl rfl (ot rfl) (CJ HM.out)) ?_;refine kq ?_
  (refine Bo rfl rfl (Aw 0 hm rfl rfl (Ac rfl) rfl (Bq HM.out) (Ce HM.out Az) (Di _ _ _ _ _) ?_))
  clear hm;intro w hm
  try simp only [puts,s2,List.set,List.eraseIdx,s3] at hm
  refine ⟨But _ _ _ _,fun _ h=>h,But.mk hm,?_⟩
  try simp only [Act.put,s3]
  iterate 2 refine kq ?_
  refine Ba ?_;go_simp;go_wp2;refine b_r (Ae rfl rfl (hm.row 0 rfl) (Bq HM.out)) rfl ⟨rfl,hm.below⟩
theorem SK (t:TT) (bit:Int) (h:t.ok) (h0:0<=bit) (h1:bit<=1) (w:World):Calls prog 126 #[.agg t.v,.int .i64 bit] w (RB w (if (t.next bit).2 then .tuple #[.agg (t.next bit).1.v,.bool ((t.next bit).1.s == 258),.int .i64 0] else .tuple #[.agg TT0.v,.bool false,.int .i64 100])):=by
 have CV:=h_ (fun w=>dK t h w);have CN:=h_ (fun w=>A43 t bit h h0 h1 w)
 have hl2:(t.next bit).1.l.length=258:=by
  obtain ⟨l,s,b,n,d⟩:=t;have:=h.len;simp only [TT.next] at *;exact xd1
 generalize t.next bit=p at *;obtain ⟨t2,ok⟩:=p;cases ok with
|true=>exact mV t.l t.s t.b t.n t.d bit t2.l t2.s t2.b t2.n t2.d true w h.len hl2 CV CN h.sym.2 (by omega) rfl
|false=>exact dL t.l t.s t.b t.n t.d bit t2.l t2.s t2.b t2.n t2.d false w h.len hl2 CV CN h.sym.2 (by omega) rfl
def Bv (t:TT):I_->Int->I_ × Int × Int
|[],_=>(Hf,0,50)
|b::r,i=>if (t.next b).2 then if (t.next b).1.s=258 then ((t.next b).1.l,i+1,0) else Bv (t.next b).1 r (i+1) else (Hf,0,100)
def Bin (l:I_):Prop:=∀ x ∈ l,0<=x/\x<=1
theorem Bin.gi {l:I_} (h:Bin l) (k:Nat) (hk:k < l.length):0<=gi l k/\gi l k<=1:=h _ (by rw [BZ l k hk];exact List.getElem_mem _)
theorem aC (w:World):(zeroValue 139).run prog w=.ok (.agg (J .u8 Hf)) w:=by kernel_rfl
theorem WC {m l:I_} (h:l.length=258) (k:m.length=258):(J .u8 l).size=(J .u8 m).size:=by rw [Df,Df,h,k]
theorem SN (v:Value) (l:I_) (w0:World) (hv:In .i64 w0 v l) (hb:Bin l) (hn:l.length<=10000000):Calls prog 103 #[v] w0 (RB w0 (.tuple #[.agg (J .u8 (Bv TT0 l 0).1),.int .i64 (Bv TT0 l 0).2.1,.int .i64 (Bv TT0 l 0).2.2])):=by
 obtain ⟨ad,cp,rfl,hc⟩:=hv;obtain ⟨i3,hE⟩:=nR;have HE:=h_ hE;have HC:=h_ hc;have HB:=h_ hb;clear hE hc hb;go_enter func103,ntmps103;have hm:=Own.nil w0
 go_wp2_with (first
 |(with_reducible first|(refine wa 139 hm aC ?_;clear hm;intro w g2 hm)|(refine wa 141 hm Jz ?_;clear hm;intro w g5 hm)))
 go_loopw [12] (fun u wr=>∃ (k:Nat) (t:TT),k<=l.length/\u=.int .i64 k/\t.ok/\Bv TT0 l 0=Bv t (l.drop k) k/\Own w0 wr [(g5,t.v),(g2,J .u8 Hf)] []) (fun u _=>l.length - (intOf u).toNat)
 case atStart=>exact ⟨0,TT0,by omega,rfl,XK,rfl,hm⟩
 case round =>
  clear hm;obtain ⟨k,t,hk,rfl,ht,hR,hm⟩:=hrel;by_cases hlt:k < l.length
  ·obtain ⟨A,rfl,hA0⟩:=HC.out k hlt;have hA:∀ W,Below w0.heap.size w0 W->W.cell? (A.add k)=some (.int .i64 (gi l k)):=fun W h=>(h.cell (block_lt_of_cell hA0)).trans hA0;have hs:=HB.out.gi k hlt;rw [List.drop_eq_getElem_cons hlt,<- BZ l k hlt,Bv] at hR;have CN:=h_ (fun w=>A43 t (gi l k) ht hs.1 hs.2 w);have hX:=ht.next hs.1 hs.2
   have hl2:(t.next (gi l k)).1.l.length=258:=by
    have:=ht.len;simp only [TT.next];exact xd1
   have q1:gi l k / 2=0:=by omega
   have HT:=h_ ht.len;have HR:=h_ hR;clear hA0 hR hs;generalize gi l k=x at *;generalize t.next x=p at *;obtain ⟨t2,ok⟩:=p;have HM:=h_ hl2;have HX:=h_ hX;clear hl2 hX ht;obtain ⟨l1,s1,b1,n1,d1⟩:=t;obtain ⟨l2,s2,b2,n2,d2⟩:=t2;simp only [TT.v] at *;cases ok with
  |false =>
    have hR:=HR.out;rw [if_neg (by simp)] at hR;have HRR:=h_ hR;clear hR HR HX
    go_wp2_with (first
     |(go_at_call 144;refine cB (CN.out _) hm ?_;clear hm;intro w1 hm)
     |(with_reducible refine wa 141 hm Jz ?_;clear hm;intro w g8 hm)
     |(with_reducible refine gIa (t:=124) ?_;(refine A8 rfl (Am rfl HE.out rfl rfl rfl hlt) ?_))
     |(with_reducible refine gLd (t:=3) ?_;((refine A8 rfl (AU rfl rfl BG (hA _ hm.below)) ?_)))
     |(with_reducible first|(refine wla 141 0 hm ?_ (ht:=c_z (Bq HT.out)))|(refine wla 139 2 hm ?_ (ht:=c_z (F5 Az)))|(refine ws 141 0 hm ?_ (ht:=c_z (Bq HM.out)) (hs:=c_z (Ce HM.out Az)) (h1:=c_z (Di _ _ _ _ _));clear hm;intro w hm)|(refine ws 139 2 hm ?_ (ht:=c_z (F5 Az)) (h1:=c_z (J_one _ _));clear hm;intro w hm)))
    refine b_r (Ae rfl rfl (hm.row 2 rfl) (F5 Az)) rfl ⟨by rw [HRR.out];rfl,hm.below⟩
  |true =>
    have hX:=HX.out rfl;have hR:=HR.out;rw [if_pos rfl] at hR;clear HX HR;by_cases he:s2=258
    ·subst he;rw [if_pos rfl] at hR;have HRR:=h_ hR;clear hR hX;have w1:IntKind.i64.wrap ((k:Int)+1)=(k:Int)+1:=i_6
     go_wp2_with (first
      |(go_at_call 144;refine cB (CN.out _) hm ?_;clear hm;intro w1 hm)
      |(with_reducible refine wa 141 hm Jz ?_;clear hm;intro w g8 hm)
      |(with_reducible refine gIa (t:=124) ?_;(refine A8 rfl (Am rfl HE.out rfl rfl rfl hlt) ?_))
      |(with_reducible refine gLd (t:=3) ?_;(first|(refine A8 rfl (AU rfl rfl BG (hA _ hm.below)) ?_)|(refine A8 rfl (ld 1 hm rfl rfl rfl (ot rfl) (CJ HM.out)) ?_)))
      |(with_reducible refine wla 141 0 hm ?_ (ht:=(by with_unfolding_all (first|exact (Bq HT.out)|exact (Bq HM.out)))))
      |(with_reducible refine gLd (t:=139) ?_;((refine A8 rfl (ldp 1 hm rfl rfl rfl (Jv HM.out) (F5 HM.out) (L9 HM.out)) ?_)))
      |(with_reducible (first|refine ws 141 0 hm ?_ (ht:=c_z (Bq HM.out)) (hs:=c_z (Ce HM.out Az)) (h1:=c_z (Di _ _ _ _ _))|refine ws 141 1 hm ?_ (ht:=c_z (Bq HM.out)) (hs:=c_z (Ce HM.out HT.out)) (h1:=c_z (Di _ _ _ _ _)));clear hm;intro w hm)
      |(with_reducible refine ws 139 2 hm ?_ (ht:=c_z (F5 HM.out)) (hs:=c_z (WC HM.out Az)) (h1:=c_z (J_one _ _));clear hm;intro w hm))
     refine b_r (Ae rfl rfl (hm.row 2 rfl) (F5 HM.out)) rfl ⟨by rw [HRR.out];rfl,hm.below⟩
    ·have q2:(s2 == 258)=false:=by simpa using he
     rw [if_neg he] at hR;rcases hX with hX|hX
     ·have HX:=h_ hX;have HR:=h_ hR;clear hX hR he
      go_wp2_with (first
       |(go_at_call 144;refine cB (CN.out _) hm ?_;clear hm;intro w1 hm)
       |(with_reducible refine wa 141 hm Jz ?_;clear hm;intro w g8 hm)
       |(with_reducible refine gIa (t:=124) ?_;(refine A8 rfl (Am rfl HE.out rfl rfl rfl hlt) ?_))
       |(with_reducible refine gLd (t:=3) ?_;(first|(refine A8 rfl (AU rfl rfl BG (hA _ hm.below)) ?_)|(refine A8 rfl (ld 1 hm rfl rfl rfl (ot rfl) (CJ HM.out)) ?_)))
       |(with_reducible refine wla 141 0 hm ?_ (ht:=(by with_unfolding_all (first|exact (Bq HT.out)|exact (Bq HM.out)))))
       |(with_reducible (first|refine ws 141 0 hm ?_ (ht:=c_z (Bq HM.out)) (hs:=c_z (Ce HM.out Az)) (h1:=c_z (Di _ _ _ _ _))|refine ws 141 1 hm ?_ (ht:=c_z (Bq HM.out)) (hs:=c_z (Ce HM.out HT.out)) (h1:=c_z (Di _ _ _ _ _)));clear hm;intro w hm)
        )
      go_roundw
      case rel=>exact ⟨k+1,⟨l2,s2,b2,n2,d2⟩,by omega,by go_num,HX.out.2,HR.out,hm.dropRow⟩
      case measure=>simp [intOf];omega
     ·exact (he hX.1).elim
  ·obtain rfl:l.length=k:=by omega
   rw [List.drop_length,Bv] at hR;have HRR:=h_ hR;clear hR
   go_wp2_with (first
    |(with_reducible first|(refine wla 139 1 hm ?_ (ht:=c_z (F5 Az)))|(refine ws 139 1 hm ?_ (ht:=c_z (F5 Az)) (h1:=c_z (J_one _ _));clear hm;intro w hm)))
   refine b_r (Ae rfl rfl (hm.row 1 rfl) (F5 Az)) rfl ⟨by rw [HRR.out];rfl,hm.below⟩
variable {a:Act} {ops:O_} {Q:Exit->P_} {k m p s:Int} {t u:KT} {i:Nat} {o:Oper} {x y:Operand} {P:Program} {w:World} {S:World->Prop}
theorem au {j:Nat} (h1:wpK P ops Q (.one i t) S a w) (h2:wpK P ops Q (.one j u) S a w):wpK P ops Q (.two i t j u) S a w:=⟨h1,h2⟩
theorem FM (w:World):(zeroValue 88).run prog w=.ok (.agg (MS 0 0 0 0 0 0 0)) w:=by kernel_rfl
theorem Gt (a V M m p s k:Int):Aq prog 88 (MS a V M m p s k).size:=ag rfl
theorem EH (a V M m p s k:Int):∀ v ∈ MS a V M m p s k,v.oneCell'=true:=Dp (cs:=[.int .i64 a,.int .i64 V,.int .i64 M,.int .i64 m,.int .i64 p,.int .u32 s,.int .i64 k]) rfl
theorem JZ (a V M m p s k:Int):(MS a V M m p s k).size=7:=rfl
theorem Na (a V M m p s k a' V' M' m' p' s' k':Int):(MS a V M m p s k).size=(MS a' V' M' m' p' s' k').size:=rfl
theorem Ju:TT0.v.size=262:=Dy Az
theorem yj:Aq prog 141 TT0.v.size:=Bq Az
theorem XJ:∀ v ∈ TT0.v,v.oneCell'=true:=Di _ _ _ _ _
theorem Gy (ho:o.op=.build 76 #[(0,x),(2,y)]) (hx:a.eval x=.int .u8 k) (hy:a.eval y=.agg #[.int .i64 m,.int .i64 p,.int .u32 s]):(execOp a.eval o).run prog w=.ok (.value (.agg (EVT k 0 m p s (.slice none 0 0) 0))) w :=
 Dq ho (by simp only [l_y,List.map_cons,List.map_nil,hx,hy];kernel_rfl)
theorem Kr (ho:o.op=.build 141 #[]):(execOp a.eval o).run prog w=.ok (.value (.agg TT0.v)) w :=
 Dq ho (by simp only [l_y,List.map_nil];kernel_rfl)
theorem uV (gp:Nat) (n a V M m p s k c a2 V2 M2 m2 p2 s2 k2:Int) (c0:0<=c) (c1:c<=255) (pr:Value) (pt ts cs ds er:A_) (RR:Rws) (w0 w:World) (ss:List Sl) (hm:Own w0 w ((gp,PR pt (HS 4 0 0 n) (MS a V M m p s k) ts cs ds er)::RR) ss) (Q:Rws->Prop) (CT:Hid (∀ W g,Own w0 W (g::(gp,PR pt (HS 4 0 0 n) (MS a V M m p s k) ts cs ds er)::RR) ss->Calls prog 124 #[.pointer (some ⟨gp,0,none⟩),pr,.int .i64 8] W fun x w'=>(x=.returned (.tuple #[.int .u32 c,.agg (EVT 0 0 0 0 0 (.slice none 0 0) 0),.bool true]))/\∃ RR',Q RR'/\Own w0 w' (g::(gp,PR pt (HS 4 0 0 n) (MS a V M m p s k) ts cs ds er)::RR') ss)) (CS:Hid (∀ w,Calls prog 101 #[.int .i64 n,.agg (MS a V M m p s k),.int .u8 c] w (RB w (.tuple #[.agg (MS a2 V2 M2 m2 p2 s2 k2),.bool false,.int .i64 0])))) (hz:PRz pt (HS 4 0 0 n) (MS a V M m p s k) ts cs ds er) :Calls prog 80 #[.pointer (some ⟨gp,0,none⟩),pr] w fun x w'=>(x=.returned (.tuple #[.agg (EVT 0 0 0 0 0 (.slice none 0 0) 0),.bool false]))/\∃ RR',Q RR'/\Own w0 w' ((gp,PR pt (HS 4 0 0 n) (MS a2 V2 M2 m2 p2 s2 k2) ts cs ds er)::RR') ss:=by
 have HZ:=h_ hz;have w1:IntKind.u8.wrap c=c:=IntWalk.u8_in _ (by omega);clear hz c0 c1;go_enter func80,ntmps80
 go_upto_region 4 with (first
  |(go_at_call 124;have _t:=hm;refine (CT.out _ _ hm).mono ?_;clear _t hm CT;rintro x w ⟨rfl,RR2,hQ,hm⟩)
  |(with_reducible first|(refine wa 76 hm BX ?_;clear hm;intro w g hm)|(refine ws 76 0 hm ?_ (h1:=c_z (Ak _ _ _ _ _ rfl _));clear hm;intro w hm))
   )
 refine rO hm 20 (.rds [(0,false),(1,false),(2,false),(3,false),(4,true),(5,false),(6,false),(7,false),(8,true),(9,false),(10,false)] (.two 11 (.rds [(12,false),(13,false),(14,false),(15,false)] (.one 16 (.one 17 (.rds [(18,false),(19,false)] .done)))) 16 (.one 11 (.rds [(12,false),(13,false),(14,false),(15,false)] (.one 17 (.rds [(18,false),(19,false)] .done)))))) ?_;clear hm;intro w hm;simp only [KT.rds]
 iterate 4 refine kq ?_
 refine km (fun W hm=>ld 2 hm rfl rfl rfl (ot rfl) (OM HZ.out (i:=3) rfl)) ?_
 iterate 3 refine kq ?_
 refine km (fun W hm=>ldp 2 hm rfl rfl rfl (LQ HZ.out) (Gt _ _ _ _ _ _ _) (LW HZ.out)) ?_
 iterate 2 refine kq ?_
 refine au ?_ ?_
 ·refine DJ rfl rfl (fun K hK=>?_);go_simp;refine (CS.out _).mono ?_;rintro e w1 ⟨rfl,hb⟩;replace hm:=hm.call hb;clear hb;refine hK _ _ ⟨fun W=>Own _ W _ _,fun _ h=>h,(by exact hm),?_⟩;clear hK K
  iterate 4 refine kq ?_
  (refine Bo rfl rfl (Dl hm rfl FM ?_))
  clear hm;intro w g9 hm;refine ⟨fun W=>Own _ W _ _,fun _ h=>h,hm.dropRow,?_⟩
  try simp only [Act.put,s3]
  (refine Bo rfl rfl (Aw 0 hm rfl rfl (Ac rfl) rfl (Gt _ _ _ _ _ _ _) (Na _ _ _ _ _ _ _ _ _ _ _ _ _ _) (EH _ _ _ _ _ _ _) ?_))
  exact xfp
 ·(refine Bo rfl rfl (Dl hm rfl FM ?_))
  clear hm;intro w g9 hm;refine ⟨fun W=>Own _ W _ _,fun _ h=>h,hm.dropRow,?_⟩
  try simp only [Act.put,s3]
  refine DJ rfl rfl (fun K hK=>?_);go_simp;refine (CS.out _).mono ?_;rintro e w1 ⟨rfl,hb⟩;replace hm:=hm.call hb;clear hb;refine hK _ _ ⟨fun W=>Own _ W _ _,fun _ h=>h,(by exact hm.dropRow),?_⟩;clear hK K
  iterate 4 refine kq ?_
  (refine Bo rfl rfl (Aw 0 hm rfl rfl (Ac rfl) rfl (Gt _ _ _ _ _ _ _) (Na _ _ _ _ _ _ _ _ _ _ _ _ _ _) (EH _ _ _ _ _ _ _) ?_))
  exact xfp
theorem YK (gp:Nat) (n a V M m p s k c V2 M2 m2 p2 s2 k2:Int) (c0:0<=c) (c1:c<=255) (pr:Value) (pt ts cs ds er:A_) (RR:Rws) (w0 w:World) (ss:List Sl) (hm:Own w0 w ((gp,PR pt (HS 4 0 0 n) (MS a V M m p s k) ts cs ds er)::RR) ss) (Q:Rws->Prop) (CT:Hid (∀ W g,Own w0 W (g::(gp,PR pt (HS 4 0 0 n) (MS a V M m p s k) ts cs ds er)::RR) ss->Calls prog 124 #[.pointer (some ⟨gp,0,none⟩),pr,.int .i64 8] W fun x w'=>(x=.returned (.tuple #[.int .u32 c,.agg (EVT 0 0 0 0 0 (.slice none 0 0) 0),.bool true]))/\∃ RR',Q RR'/\Own w0 w' (g::(gp,PR pt (HS 4 0 0 n) (MS a V M m p s k) ts cs ds er)::RR') ss)) (CS:Hid (∀ w,Calls prog 101 #[.int .i64 n,.agg (MS a V M m p s k),.int .u8 c] w (RB w (.tuple #[.agg (MS 4 V2 M2 m2 p2 s2 k2),.bool true,.int .i64 0])))) (hz:PRz pt (HS 4 0 0 n) (MS a V M m p s k) ts cs ds er) :Calls prog 80 #[.pointer (some ⟨gp,0,none⟩),pr] w fun x w'=>(x=.returned (.tuple #[.agg (EVT 3 0 m2 p2 s2 (.slice none 0 0) 0),.bool true]))/\∃ RR',Q RR'/\Own w0 w' ((gp,PR (PT 3) (HS 4 0 0 n) (MS 4 V2 M2 m2 p2 s2 k2) TT0.v cs ds er)::RR') ss:=by
 have HZ:=h_ hz;have w1:IntKind.u8.wrap c=c:=IntWalk.u8_in _ (by omega);clear hz c0 c1;have HZ2:Hid (PRz pt (HS 4 0 0 n) (MS 4 V2 M2 m2 p2 s2 k2) ts cs ds er):=h_ (HZ.out.ms_ rfl);have HZ3:Hid (PRz (PT 3) (HS 4 0 0 n) (MS 4 V2 M2 m2 p2 s2 k2) ts cs ds er):=h_ (HZ2.out.pt_ rfl);go_enter func80,ntmps80
 go_upto_region 4 with (first
  |(go_at_call 124;have _t:=hm;refine (CT.out _ _ hm).mono ?_;clear _t hm CT;rintro x w ⟨rfl,RR2,hQ,hm⟩)
  |(with_reducible first|(refine wa 76 hm BX ?_;clear hm;intro w g hm)|(refine ws 76 0 hm ?_ (h1:=c_z (Ak _ _ _ _ _ rfl _));clear hm;intro w hm))
   )
 refine rO hm 20 (.rds [(0,false),(1,false),(2,false),(3,false),(4,true),(5,false),(6,false),(7,false),(8,true),(9,false),(10,false)] (.two 11 (.rds [(12,false),(13,false),(14,false),(15,false)] (.one 16 (.one 17 (.rds [(18,false),(19,false)] .done)))) 16 (.one 11 (.rds [(12,false),(13,false),(14,false),(15,false)] (.one 17 (.rds [(18,false),(19,false)] .done)))))) ?_;clear hm;intro w hm;simp only [KT.rds]
 iterate 4 refine kq ?_
 refine km (fun W hm=>ld 2 hm rfl rfl rfl (ot rfl) (OM HZ.out (i:=3) rfl)) ?_
 iterate 3 refine kq ?_
 refine km (fun W hm=>ldp 2 hm rfl rfl rfl (LQ HZ.out) (Gt _ _ _ _ _ _ _) (LW HZ.out)) ?_
 iterate 2 refine kq ?_
 refine au ?_ ?_
 ·refine DJ rfl rfl (fun K hK=>?_);go_simp;refine (CS.out _).mono ?_;rintro e w1 ⟨rfl,hb⟩;replace hm:=hm.call hb;clear hb;refine hK _ _ ⟨fun W=>Own _ W _ _,fun _ h=>h,(by exact hm),?_⟩;clear hK K
  iterate 4 refine kq ?_
  (refine Bo rfl rfl (Dl hm rfl FM ?_))
  clear hm;intro w g9 hm;refine ⟨fun W=>Own _ W _ _,fun _ h=>h,hm.dropRow,?_⟩
  try simp only [Act.put,s3]
  (refine Bo rfl rfl (Aw 0 hm rfl rfl (Ac rfl) rfl (Gt _ _ _ _ _ _ _) (Na _ _ _ _ _ _ _ _ _ _ _ _ _ _) (EH _ _ _ _ _ _ _) ?_))
  exact xat
 ·(refine Bo rfl rfl (Dl hm rfl FM ?_))
  clear hm;intro w g9 hm;refine ⟨fun W=>Own _ W _ _,fun _ h=>h,hm.dropRow,?_⟩
  try simp only [Act.put,s3]
  refine DJ rfl rfl (fun K hK=>?_);go_simp;refine (CS.out _).mono ?_;rintro e w1 ⟨rfl,hb⟩;replace hm:=hm.call hb;clear hb;refine hK _ _ ⟨fun W=>Own _ W _ _,fun _ h=>h,(by exact hm.dropRow),?_⟩;clear hK K
  iterate 4 refine kq ?_
  (refine Bo rfl rfl (Aw 0 hm rfl rfl (Ac rfl) rfl (Gt _ _ _ _ _ _ _) (Na _ _ _ _ _ _ _ _ _ _ _ _ _ _) (EH _ _ _ _ _ _ _) ?_))
  exact xat
theorem dJ (gp:Nat) (n a V M m p s k c V2 M2 m2 p2 s2 k2:Int) (c0:0<=c) (c1:c<=255) (pr:Value) (pt ts cs ds er:A_) (RR:Rws) (w0 w:World) (ss:List Sl) (hm:Own w0 w ((gp,PR pt (HS 4 0 0 n) (MS a V M m p s k) ts cs ds er)::RR) ss) (Q:Rws->Prop) (CT:Hid (∀ W g,Own w0 W (g::(gp,PR pt (HS 4 0 0 n) (MS a V M m p s k) ts cs ds er)::RR) ss->Calls prog 124 #[.pointer (some ⟨gp,0,none⟩),pr,.int .i64 8] W fun x w'=>(x=.returned (.tuple #[.int .u32 c,.agg (EVT 0 0 0 0 0 (.slice none 0 0) 0),.bool true]))/\∃ RR',Q RR'/\Own w0 w' (g::(gp,PR pt (HS 4 0 0 n) (MS a V M m p s k) ts cs ds er)::RR') ss)) (CS:Hid (∀ w,Calls prog 101 #[.int .i64 n,.agg (MS a V M m p s k),.int .u8 c] w (RB w (.tuple #[.agg (MS 6 V2 M2 m2 p2 s2 k2),.bool true,.int .i64 0])))) (hz:PRz pt (HS 4 0 0 n) (MS a V M m p s k) ts cs ds er) :Calls prog 80 #[.pointer (some ⟨gp,0,none⟩),pr] w fun x w'=>(x=.returned (.tuple #[.agg (EVT 6 0 m2 p2 s2 (.slice none 0 0) 0),.bool true]))/\∃ RR',Q RR'/\Own w0 w' ((gp,PR (PT 6) (HS 4 0 0 n) (MS 6 V2 M2 m2 p2 s2 k2) ts cs ds er)::RR') ss:=by
 have HZ:=h_ hz;have w1:IntKind.u8.wrap c=c:=IntWalk.u8_in _ (by omega);clear hz c0 c1;have HZ2:Hid (PRz pt (HS 4 0 0 n) (MS 6 V2 M2 m2 p2 s2 k2) ts cs ds er):=h_ (HZ.out.ms_ rfl);go_enter func80,ntmps80
 go_upto_region 4 with (first
  |(go_at_call 124;have _t:=hm;refine (CT.out _ _ hm).mono ?_;clear _t hm CT;rintro x w ⟨rfl,RR2,hQ,hm⟩)
  |(with_reducible first|(refine wa 76 hm BX ?_;clear hm;intro w g hm)|(refine ws 76 0 hm ?_ (h1:=c_z (Ak _ _ _ _ _ rfl _));clear hm;intro w hm))
   )
 refine rO hm 20 (.rds [(0,false),(1,false),(2,false),(3,false),(4,true),(5,false),(6,false),(7,false),(8,true),(9,false),(10,false)] (.two 11 (.rds [(12,false),(13,false),(14,false),(15,false)] (.one 16 (.one 17 (.rds [(18,false),(19,false)] .done)))) 16 (.one 11 (.rds [(12,false),(13,false),(14,false),(15,false)] (.one 17 (.rds [(18,false),(19,false)] .done)))))) ?_;clear hm;intro w hm;simp only [KT.rds]
 iterate 4 refine kq ?_
 refine km (fun W hm=>ld 2 hm rfl rfl rfl (ot rfl) (OM HZ.out (i:=3) rfl)) ?_
 iterate 3 refine kq ?_
 refine km (fun W hm=>ldp 2 hm rfl rfl rfl (LQ HZ.out) (Gt _ _ _ _ _ _ _) (LW HZ.out)) ?_
 iterate 2 refine kq ?_
 refine au ?_ ?_
 ·refine DJ rfl rfl (fun K hK=>?_);go_simp;refine (CS.out _).mono ?_;rintro e w1 ⟨rfl,hb⟩;replace hm:=hm.call hb;clear hb;refine hK _ _ ⟨fun W=>Own _ W _ _,fun _ h=>h,(by exact hm),?_⟩;clear hK K
  iterate 4 refine kq ?_
  (refine Bo rfl rfl (Dl hm rfl FM ?_))
  clear hm;intro w g9 hm;refine ⟨fun W=>Own _ W _ _,fun _ h=>h,hm.dropRow,?_⟩
  try simp only [Act.put,s3]
  (refine Bo rfl rfl (Aw 0 hm rfl rfl (Ac rfl) rfl (Gt _ _ _ _ _ _ _) (Na _ _ _ _ _ _ _ _ _ _ _ _ _ _) (EH _ _ _ _ _ _ _) ?_))
  exact xaw
 ·(refine Bo rfl rfl (Dl hm rfl FM ?_))
  clear hm;intro w g9 hm;refine ⟨fun W=>Own _ W _ _,fun _ h=>h,hm.dropRow,?_⟩
  try simp only [Act.put,s3]
  refine DJ rfl rfl (fun K hK=>?_);go_simp;refine (CS.out _).mono ?_;rintro e w1 ⟨rfl,hb⟩;replace hm:=hm.call hb;clear hb;refine hK _ _ ⟨fun W=>Own _ W _ _,fun _ h=>h,(by exact hm.dropRow),?_⟩;clear hK K
  iterate 4 refine kq ?_
  (refine Bo rfl rfl (Aw 0 hm rfl rfl (Ac rfl) rfl (Gt _ _ _ _ _ _ _) (Na _ _ _ _ _ _ _ _ _ _ _ _ _ _) (EH _ _ _ _ _ _ _) ?_))
  exact xaw
theorem mQ (gp:Nat) (n a V M m p s k c:Int) (c0:0<=c) (c1:c<=255) (pr:Value) (pt ts cs ds er:A_) (RR:Rws) (w0 w:World) (ss:List Sl) (hm:Own w0 w ((gp,PR pt (HS 4 0 0 n) (MS a V M m p s k) ts cs ds er)::RR) ss) (Q:Rws->Prop) (CT:Hid (∀ W g,Own w0 W (g::(gp,PR pt (HS 4 0 0 n) (MS a V M m p s k) ts cs ds er)::RR) ss->Calls prog 124 #[.pointer (some ⟨gp,0,none⟩),pr,.int .i64 8] W fun x w'=>(x=.returned (.tuple #[.int .u32 c,.agg (EVT 0 0 0 0 0 (.slice none 0 0) 0),.bool true]))/\∃ RR',Q RR'/\Own w0 w' (g::(gp,PR pt (HS 4 0 0 n) (MS a V M m p s k) ts cs ds er)::RR') ss)) (CS:Hid (∀ w,Calls prog 101 #[.int .i64 n,.agg (MS a V M m p s k),.int .u8 c] w (RB w (.tuple #[.agg (MS 0 0 0 0 0 0 0),.bool false,.int .i64 242])))) (hz:PRz pt (HS 4 0 0 n) (MS a V M m p s k) ts cs ds er) :Calls prog 80 #[.pointer (some ⟨gp,0,none⟩),pr] w fun x w'=>(x=.returned (.tuple #[.agg (EVT 8 0 0 0 0 (.slice none 0 0) 242),.bool true]))/\∃ RR',Q RR'/\Own w0 w' ((gp,PR (PT 8) (HS 4 0 0 n) (MS a V M m p s k) ts cs ds (ER 242))::RR') ss:=by
 have HZ:=h_ hz;have w1:IntKind.u8.wrap c=c:=IntWalk.u8_in _ (by omega);clear hz c0 c1;have CW:Hid (∀ {W} {g9 g7 g:Nat × A_} {RR2},Own w0 W (g9::g7::g::(gp,PR pt (HS 4 0 0 n) (MS a V M m p s k) ts cs ds er)::RR2) ss->Calls prog 125 #[.pointer (some ⟨gp,0,none⟩),.int .i64 242] W fun x w'=>(x=.returned (.tuple #[.agg (EVT 8 0 0 0 0 (.slice none 0 0) 242),.bool true]))/\Own w0 w' (g9::g7::g::(gp,PR (PT 8) (HS 4 0 0 n) (MS a V M m p s k) ts cs ds (ER 242))::RR2) ss):=h_ fun h=>(Gf gp pt (HS 4 0 0 n) (MS a V M m p s k) ts cs ds er 242 w0 _ _ ss (h.front 3 rfl) HZ.out).mono fun x w' h=>⟨h.1,h.2.A1F⟩;go_enter func80,ntmps80
 go_upto_region 4 with (first
  |(go_at_call 124;have _t:=hm;refine (CT.out _ _ hm).mono ?_;clear _t hm CT;rintro x w ⟨rfl,RR2,hQ,hm⟩)
  |(with_reducible first|(refine wa 76 hm BX ?_;clear hm;intro w g hm)|(refine ws 76 0 hm ?_ (h1:=c_z (Ak _ _ _ _ _ rfl _));clear hm;intro w hm))
   )
 refine rO hm 20 (.rds [(0,false),(1,false),(2,false),(3,false),(4,true),(5,false),(6,false),(7,false),(8,true),(9,false),(10,false)] (.two 11 (.rds [(12,false),(13,false),(14,false),(15,false)] (.one 16 (.one 17 (.rds [(18,false),(19,false)] .done)))) 16 (.one 11 (.rds [(12,false),(13,false),(14,false),(15,false)] (.one 17 (.rds [(18,false),(19,false)] .done)))))) ?_;clear hm;intro w hm;simp only [KT.rds]
 iterate 4 refine kq ?_
 refine km (fun W hm=>ld 2 hm rfl rfl rfl (ot rfl) (OM HZ.out (i:=3) rfl)) ?_
 iterate 3 refine kq ?_
 refine km (fun W hm=>ldp 2 hm rfl rfl rfl (LQ HZ.out) (Gt _ _ _ _ _ _ _) (LW HZ.out)) ?_
 iterate 2 refine kq ?_
 refine au ?_ ?_
 ·refine DJ rfl rfl (fun K hK=>?_);go_simp;refine (CS.out _).mono ?_;rintro e w1 ⟨rfl,hb⟩;replace hm:=hm.call hb;clear hb;refine hK _ _ ⟨fun W=>Own _ W _ _,fun _ h=>h,(by exact hm),?_⟩;clear hK K
  iterate 4 refine kq ?_
  (refine Bo rfl rfl (Dl hm rfl FM ?_))
  clear hm;intro w g9 hm;refine ⟨fun W=>Own _ W _ _,fun _ h=>h,hm.dropRow,?_⟩
  try simp only [Act.put,s3]
  (refine Bo rfl rfl (Aw 0 hm rfl rfl (Ac rfl) rfl (Gt _ _ _ _ _ _ _) (Na _ _ _ _ _ _ _ _ _ _ _ _ _ _) (EH _ _ _ _ _ _ _) ?_))
  exact xfq
 ·(refine Bo rfl rfl (Dl hm rfl FM ?_))
  clear hm;intro w g9 hm;refine ⟨fun W=>Own _ W _ _,fun _ h=>h,hm.dropRow,?_⟩
  try simp only [Act.put,s3]
  refine DJ rfl rfl (fun K hK=>?_);go_simp;refine (CS.out _).mono ?_;rintro e w1 ⟨rfl,hb⟩;replace hm:=hm.call hb;clear hb;refine hK _ _ ⟨fun W=>Own _ W _ _,fun _ h=>h,(by exact hm.dropRow),?_⟩;clear hK K
  iterate 4 refine kq ?_
  (refine Bo rfl rfl (Aw 0 hm rfl rfl (Ac rfl) rfl (Gt _ _ _ _ _ _ _) (Na _ _ _ _ _ _ _ _ _ _ _ _ _ _) (EH _ _ _ _ _ _ _) ?_))
  exact xfq
variable {a:Act} {k:Int} {o:Oper} {x:Operand} {w:World}
theorem J8 (ho:o.op=.build 76 #[(0,x)]) (hx:a.eval x=.int .u8 k):(execOp a.eval o).run prog w=.ok (.value (.agg (EVT k 0 0 0 0 (.slice none 0 0) 0))) w :=
 Dq ho (by simp only [l_y,List.map_cons,List.map_nil,hx];kernel_rfl)
theorem Ir (ho:o.op=.build 88 #[]):(execOp a.eval o).run prog w=.ok (.value (.agg (MS 0 0 0 0 0 0 0))) w :=
 Dq ho (by simp only [l_y,List.map_nil];kernel_rfl)
theorem bV (gp:Nat) (n:Int) (pr:Value) (pt hs ms ts cs ds er:A_) (RR:Rws) (w0 w:World) (ss:List Sl) (hm:Own w0 w ((gp,PR pt hs ms ts cs ds er)::RR) ss) (P Q:Rws->Prop) (hQ:P RR) (CA:Hid (∀ W g RR,P RR->Own w0 W (g::(gp,PR pt hs ms ts cs ds er)::RR) ss->Calls prog 131 #[pr] W fun x w'=>(x=.returned (.tuple #[.int .u32 0,.int .i64 n]))/\∃ RR',Q RR'/\Own w0 w' (g::(gp,PR pt hs ms ts cs ds er)::RR') ss)) (hz:PRz pt hs ms ts cs ds er):Calls prog 86 #[.pointer (some ⟨gp,0,none⟩),pr] w fun x w'=>(x=.returned (.tuple #[.agg (EVT 5 0 0 0 0 (.slice none 0 0) 0),.bool true]))/\∃ RR',Q RR'/\Own w0 w' ((gp,PR (PT 2) hs (MS 0 0 0 0 0 0 0) ts cs ds er)::RR') ss:=by
 have HZ:=h_ hz;have HP:Hid (PRz (PT 2) hs ms ts cs ds er):=h_ (hz.pt_ rfl);clear hz;go_enter func86,ntmps86
 go_wp2_with (first
  |(go_at_call 131;have _t:=hm;refine (CA.out _ _ _ hQ hm).mono ?_;clear _t hm hQ;rintro x w ⟨rfl,RR2,hQ,hm⟩)
  |(go_at_call 79;refine cB (WW _) hm ?_;clear hm;intro w1 hm)
  |(with_reducible refine wa 76 hm BX ?_;clear hm;intro w g hm)
  |(with_reducible refine gBu (t:=76) ?_;(refine A8 rfl (J8 rfl rfl) ?_))
  |(with_reducible refine gBu (t:=88) ?_;(refine A8 rfl (Ir rfl) ?_))
  |(with_reducible refine gSt (t:=134) ?_;(refine Ad rfl (Aj 1 hm rfl rfl (Ac rfl) rfl (Cm _) (by rw [Bg HZ.out];decide) (Ei _) (Eh HZ.out rfl) ?_);clear hm;intro w hm;try simp only [puts,s2,List.set] at hm))
  |(with_reducible refine gSt (t:=88) ?_;(refine Ad rfl (Aj 1 hm rfl rfl (Ac rfl) rfl (Gt _ _ _ _ _ _ _) (by rw [Bg HP.out,JZ];decide) (EH _ _ _ _ _ _ _) (Gu HP.out rfl) ?_);clear hm;intro w hm;try simp only [puts,s2,List.set] at hm))
  |(with_reducible refine ws 76 0 hm ?_ (h1:=c_z (Ak _ _ _ _ _ rfl _));clear hm;intro w hm))
 exact xb5
theorem Yj (gp:Nat) (n v:Int) (pr:Value) (pt hs ms ts cs ds er:A_) (RR:Rws) (w0 w:World) (ss:List Sl) (hm:Own w0 w ((gp,PR pt hs ms ts cs ds er)::RR) ss) (P Q:Rws->Prop) (hQ:P RR) (hv:v ≠ 0) (CA:Hid (∀ W g RR,P RR->Own w0 W (g::(gp,PR pt hs ms ts cs ds er)::RR) ss->Calls prog 131 #[pr] W fun x w'=>(x=.returned (.tuple #[.int .u32 v,.int .i64 n]))/\∃ RR',Q RR'/\Own w0 w' (g::(gp,PR pt hs ms ts cs ds er)::RR') ss)) (hz:PRz pt hs ms ts cs ds er):Calls prog 86 #[.pointer (some ⟨gp,0,none⟩),pr] w fun x w'=>(x=.returned (.tuple #[.agg (EVT 8 0 0 0 0 (.slice none 0 0) 160),.bool true]))/\∃ RR',Q RR'/\Own w0 w' ((gp,PR (PT 8) hs ms ts cs ds (ER 160))::RR') ss:=by
 have HZ:=h_ hz;have CW:Hid (∀ {W} {g:Nat × A_} {RR2},Own w0 W (g::(gp,PR pt hs ms ts cs ds er)::RR2) ss->Calls prog 125 #[.pointer (some ⟨gp,0,none⟩),.int .i64 160] W fun x w'=>(x=.returned (.tuple #[.agg (EVT 8 0 0 0 0 (.slice none 0 0) 160),.bool true]))/\Own w0 w' (g::(gp,PR (PT 8) hs ms ts cs ds (ER 160))::RR2) ss):=h_ fun h=>(Gf gp pt hs ms ts cs ds er 160 w0 _ _ ss (h.front 1 rfl) HZ.out).mono fun x w' h=>⟨h.1,h.2.perm (List.Perm.swap _ _ _)⟩;have q1:(v != 0)=true:=by simpa using hv
 have q2:(v == 0)=false:=by simpa using hv
 clear hv;clear hz;go_enter func86,ntmps86
 go_wp2_with (first
  |(go_at_call 131;have _t:=hm;refine (CA.out _ _ _ hQ hm).mono ?_;clear _t hm hQ;rintro x w ⟨rfl,RR2,hQ,hm⟩)
  |(go_at_call 125;have _t:=hm;refine (CW.out hm).mono ?_;clear _t hm;rintro x w ⟨rfl,hm⟩)
  |(with_reducible first|(refine wa 76 hm BX ?_;clear hm;intro w g hm)|(refine ws 76 0 hm ?_ (h1:=c_z (Ak _ _ _ _ _ rfl _));clear hm;intro w hm)))
 exact xb5
theorem bJ (gp:Nat) (n:Int) (pr:Value) (pt hs ms ts cs ds er:A_) (RR:Rws) (w0 w:World) (ss:List Sl) (hm:Own w0 w ((gp,PR pt hs ms ts cs ds er)::RR) ss) (P Q:Rws->Prop) (hQ:P RR) (hn:0 < n) (CA:Hid (∀ W g RR,P RR->Own w0 W (g::(gp,PR pt hs ms ts cs ds er)::RR) ss->Calls prog 132 #[pr] W fun x w'=>(x=.returned (.int .i64 n))/\∃ RR',Q RR'/\Own w0 w' (g::(gp,PR pt hs ms ts cs ds er)::RR') ss)) (hz:PRz pt hs ms ts cs ds er):Calls prog 88 #[.pointer (some ⟨gp,0,none⟩),pr] w fun x w'=>(x=.returned (.tuple #[.agg (EVT 8 0 0 0 0 (.slice none 0 0) 261),.bool true]))/\∃ RR',Q RR'/\Own w0 w' ((gp,PR (PT 8) hs ms ts cs ds (ER 261))::RR') ss:=by
 have HZ:=h_ hz;have CW:Hid (∀ {W} {g:Nat × A_} {RR2},Own w0 W (g::(gp,PR pt hs ms ts cs ds er)::RR2) ss->Calls prog 125 #[.pointer (some ⟨gp,0,none⟩),.int .i64 261] W fun x w'=>(x=.returned (.tuple #[.agg (EVT 8 0 0 0 0 (.slice none 0 0) 261),.bool true]))/\Own w0 w' (g::(gp,PR (PT 8) hs ms ts cs ds (ER 261))::RR2) ss):=h_ fun h=>(Gf gp pt hs ms ts cs ds er 261 w0 _ _ ss (h.front 1 rfl) HZ.out).mono fun x w' h=>⟨h.1,h.2.perm (List.Perm.swap _ _ _)⟩;have q1:decide (n > 0)=true:=by simpa using hn
 have q2:decide (0 < n)=true:=by simpa using hn
 clear hn;clear hz;go_enter func88,ntmps88
 go_wp2_with (first
  |(go_at_call 132;have _t:=hm;refine (CA.out _ _ _ hQ hm).mono ?_;clear _t hm hQ;rintro x w ⟨rfl,RR2,hQ,hm⟩)
  |(go_at_call 125;have _t:=hm;refine (CW.out hm).mono ?_;clear _t hm;rintro x w ⟨rfl,hm⟩)
  |(with_reducible first|(refine wa 76 hm BX ?_;clear hm;intro w g hm)|(refine ws 76 0 hm ?_ (h1:=c_z (Ak _ _ _ _ _ rfl _));clear hm;intro w hm)))
 exact xb5
theorem lJ (gp:Nat) (n:Int) (pr:Value) (pt hs ms ts cs ds er:A_) (RR:Rws) (w0 w:World) (ss:List Sl) (hm:Own w0 w ((gp,PR pt hs ms ts cs ds er)::RR) ss) (P Q:Rws->Prop) (hQ:P RR) (hn:¬ 0 < n) (CA:Hid (∀ W g RR,P RR->Own w0 W (g::(gp,PR pt hs ms ts cs ds er)::RR) ss->Calls prog 132 #[pr] W fun x w'=>(x=.returned (.int .i64 n))/\∃ RR',P RR'/\Own w0 w' (g::(gp,PR pt hs ms ts cs ds er)::RR') ss)) (CE:Hid (∀ W g RR,P RR->Own w0 W (g::(gp,PR pt hs ms ts cs ds er)::RR) ss->Calls prog 133 #[pr] W fun x w'=>(x=.returned (.bool true))/\∃ RR',Q RR'/\Own w0 w' (g::(gp,PR pt hs ms ts cs ds er)::RR') ss)) (hz:PRz pt hs ms ts cs ds er):Calls prog 88 #[.pointer (some ⟨gp,0,none⟩),pr] w fun x w'=>(x=.returned (.tuple #[.agg (EVT 7 0 0 0 0 (.slice none 0 0) 0),.bool true]))/\∃ RR',Q RR'/\Own w0 w' ((gp,PR (PT 7) hs ms ts cs ds er)::RR') ss:=by
 have HZ:=h_ hz;have q1:decide (n > 0)=false:=by simpa using hn
 have q2:decide (0 < n)=false:=by simpa using hn
 clear hn;clear hz;go_enter func88,ntmps88
 go_wp2_with (first
  |(go_at_call 132;have _t:=hm;refine (CA.out _ _ _ hQ hm).mono ?_;clear _t hm hQ;rintro x w ⟨rfl,RR2,hQ,hm⟩)
  |(go_at_call 133;have _t:=hm;refine (CE.out _ _ _ hQ hm).mono ?_;clear _t hm hQ;rintro x w ⟨rfl,RR2,hQ,hm⟩)
  |(go_at_call 89;refine cB (iD _) hm ?_;clear hm;intro w1 hm)
  |(with_reducible refine wa 76 hm BX ?_;clear hm;intro w g hm)
  |(with_reducible refine gBu (t:=76) ?_;(refine A8 rfl (J8 rfl rfl) ?_))
  |(with_reducible refine gSt (t:=134) ?_;(refine Ad rfl (Aj 1 hm rfl rfl (Ac rfl) rfl (Cm _) (by rw [Bg HZ.out];decide) (Ei _) (Eh HZ.out rfl) ?_);clear hm;intro w hm;try simp only [puts,s2,List.set] at hm))
  |(with_reducible refine ws 76 0 hm ?_ (h1:=c_z (Ak _ _ _ _ _ rfl _));clear hm;intro w hm))
 exact xb5
theorem A58 (gp:Nat) (n:Int) (pr:Value) (pt hs ms ts cs ds er:A_) (RR:Rws) (w0 w:World) (ss:List Sl) (hm:Own w0 w ((gp,PR pt hs ms ts cs ds er)::RR) ss) (P Q:Rws->Prop) (hQ:P RR) (hn:¬ 0 < n) (CA:Hid (∀ W g RR,P RR->Own w0 W (g::(gp,PR pt hs ms ts cs ds er)::RR) ss->Calls prog 132 #[pr] W fun x w'=>(x=.returned (.int .i64 n))/\∃ RR',P RR'/\Own w0 w' (g::(gp,PR pt hs ms ts cs ds er)::RR') ss)) (CE:Hid (∀ W g RR,P RR->Own w0 W (g::(gp,PR pt hs ms ts cs ds er)::RR) ss->Calls prog 133 #[pr] W fun x w'=>(x=.returned (.bool false))/\∃ RR',Q RR'/\Own w0 w' (g::(gp,PR pt hs ms ts cs ds er)::RR') ss)) (hz:PRz pt hs ms ts cs ds er):Calls prog 88 #[.pointer (some ⟨gp,0,none⟩),pr] w fun x w'=>(x=.returned (.tuple #[.agg (EVT 1 0 0 0 0 (.slice none 0 0) 0),.bool true]))/\∃ RR',Q RR'/\Own w0 w' ((gp,PR pt hs ms ts cs ds er)::RR') ss:=by
 have HZ:=h_ hz;have q1:decide (n > 0)=false:=by simpa using hn
 have q2:decide (0 < n)=false:=by simpa using hn
 clear hn;clear hz;go_enter func88,ntmps88
 go_wp2_with (first
  |(go_at_call 132;have _t:=hm;refine (CA.out _ _ _ hQ hm).mono ?_;clear _t hm hQ;rintro x w ⟨rfl,RR2,hQ,hm⟩)
  |(go_at_call 133;have _t:=hm;refine (CE.out _ _ _ hQ hm).mono ?_;clear _t hm hQ;rintro x w ⟨rfl,RR2,hQ,hm⟩)
  |(with_reducible refine wa 76 hm BX ?_;clear hm;intro w g hm)
  |(with_reducible refine gBu (t:=76) ?_;(refine A8 rfl (J8 rfl rfl) ?_))
  |(with_reducible refine ws 76 0 hm ?_ (h1:=c_z (Ak _ _ _ _ _ rfl _));clear hm;intro w hm))
 exact xb5
theorem wL (gp:Nat) (pr:Value) (pt hs ms ts cs ds er:A_) (RR:Rws) (w0 w:World) (ss:List Sl) (hm:Own w0 w ((gp,PR pt hs ms ts cs ds er)::RR) ss):Calls prog 90 #[.pointer (some ⟨gp,0,none⟩),pr] w fun x w'=>(x=.returned (.tuple #[.agg (EVT 7 0 0 0 0 (.slice none 0 0) 0),.bool true]))/\Own w0 w' ((gp,PR pt hs ms ts cs ds er)::RR) ss:=by
 go_enter func90,ntmps90
 go_wp2_with (first
  |(with_reducible refine wa 76 hm BX ?_;clear hm;intro w g hm)
  |(with_reducible refine gBu (t:=76) ?_;(refine A8 rfl (J8 rfl rfl) ?_))
  |(with_reducible refine ws 76 0 hm ?_ (h1:=c_z (Ak _ _ _ _ _ rfl _));clear hm;intro w hm))
 exact xc5
theorem nI (gp:Nat) (e:Int) (pr:Value) (pt hs ms ts cs ds:A_) (RR:Rws) (w0 w:World) (ss:List Sl) (hm:Own w0 w ((gp,PR pt hs ms ts cs ds (ER e))::RR) ss) (hz:PRz pt hs ms ts cs ds (ER e)):Calls prog 92 #[.pointer (some ⟨gp,0,none⟩),pr] w fun x w'=>(x=.returned (.tuple #[.agg (EVT 8 0 0 0 0 (.slice none 0 0) e),.bool true]))/\Own w0 w' ((gp,PR pt hs ms ts cs ds (ER e))::RR) ss:=by
 have HZ:=h_ hz;clear hz;go_enter func92,ntmps92
 go_wp2_with (first
  |(with_reducible first|(refine wa 76 hm BX ?_;clear hm;intro w g hm)|(refine wl 25 1 hm ?_ (hv:=c_z (yK HZ.out (i:=0) rfl))))
  |(with_reducible refine gBu (t:=76) ?_;(refine A8 rfl (MN rfl rfl rfl) ?_))
  |(with_reducible refine ws 76 0 hm ?_ (h1:=c_z (Ak _ _ _ _ _ rfl _));clear hm;intro w hm))
 exact xc5
variable {cs ds hs l ms pt:A_}
theorem PRz.V3 {ts er:A_} (h:PRz pt hs ms ts cs ds er):Aq prog 141 ts.size:=by rw [h.ts];exact ag (by decide)
theorem PRz.L6 {ts er:A_} (h:PRz pt hs ms ts cs ds er):Aq prog 143 cs.size:=by rw [h.cs];exact ag (by decide)
theorem PRz.Ud {ts er:A_} (h:PRz pt hs ms ts cs ds er):Aq prog 147 ds.size:=by rw [h.ds];exact ag (by decide)
theorem ag139 (h:l.size=258):Aq prog 139 l.size:=by rw [h];exact ag (by decide)
theorem Uj:(TS Hf 0 0 0 0).size=262:=Dy Az
theorem OY:(CS Hf 0 0).size=260:=CU Az
theorem kS (gp:Nat) (c:Int) (c0:0<=c) (c1:c<=1) (pr:Value) (pt hs ms ts cs ds er:A_) (RR:Rws) (w0 w:World) (ss:List Sl) (hm:Own w0 w ((gp,PR pt hs ms ts cs ds er)::RR) ss) (Q:Rws->Prop) (CT:Hid (∀ W g,Own w0 W (g::(gp,PR pt hs ms ts cs ds er)::RR) ss->Calls prog 124 #[.pointer (some ⟨gp,0,none⟩),pr,.int .i64 1] W fun x w'=>(x=.returned (.tuple #[.int .u32 c,.agg (EVT 0 0 0 0 0 (.slice none 0 0) 0),.bool true]))/\∃ RR',Q RR'/\Own w0 w' (g::(gp,PR pt hs ms ts cs ds er)::RR') ss)) (ts2:A_) (CS:Hid (∀ w,Calls prog 126 #[.agg ts,.int .i64 c] w (RB w (.tuple #[.agg ts2,.bool false,.int .i64 0])))) (hz:PRz pt hs ms ts cs ds er) (k2:ts2.size=262) (o2:∀ v ∈ ts2,v.oneCell'=true) :Calls prog 82 #[.pointer (some ⟨gp,0,none⟩),pr] w fun x w'=>(x=.returned (.tuple #[.agg (EVT 0 0 0 0 0 (.slice none 0 0) 0),.bool false]))/\∃ RR',Q RR'/\Own w0 w' ((gp,PR pt hs ms ts2 cs ds er)::RR') ss:=by
 have HZ:=h_ hz;have HT:Hid (PRz pt hs ms ts2 cs ds er):=h_ (hz.ts_ k2);have K2:=h_ k2;have O2:=h_ o2;have w1:IntKind.i64.wrap c=c:=i_6;clear hz c0 c1 k2 o2;go_enter func82,ntmps82
 go_wp2_with (first
  |(go_at_call 124;have _t:=hm;refine (CT.out _ _ hm).mono ?_;clear _t hm CT;rintro x w ⟨rfl,RR2,hQ,hm⟩)
  |(go_at_call 126;refine cB (CS.out _) hm ?_;clear hm;intro w1 hm)
  |(with_reducible first|(refine wa 76 hm BX ?_;clear hm;intro w g hm)|(refine wa 141 hm Jz ?_;clear hm;intro w g9 hm))
  |(with_reducible refine gLd (t:=141) ?_;(first|(refine A8 rfl (ldp 2 hm rfl rfl rfl (PZ HZ.out) HZ.out.V3 (Q9 HZ.out)) ?_)|(refine A8 rfl (lda 0 hm rfl rfl rfl HT.out.V3) ?_)))
  |(with_reducible refine gSt (t:=141) ?_;(first|(refine Ad rfl (Aw 0 hm rfl rfl (Ac rfl) rfl HT.out.V3 (by rw [K2.out,Uj]) O2.out ?_);clear hm;intro w hm;try simp only [puts,s2,List.set] at hm)|(refine Ad rfl (Aj 3 hm rfl rfl (Ac rfl) rfl HT.out.V3 (by rw [Bg HZ.out,K2.out];decide) O2.out (LV HZ.out K2.out) ?_);clear hm;intro w hm;try simp only [puts,s2,List.set] at hm)))
  |(with_reducible (first|refine ws 76 0 hm ?_ (h1:=c_z (Ak _ _ _ _ _ rfl _))|refine ws 76 2 hm ?_ (h1:=c_z (Ak _ _ _ _ _ rfl _)));clear hm;intro w hm)
  |(with_reducible refine wla 76 1 hm ?_))
 exact xa4
theorem XU (gp:Nat) (c a V M m p s k:Int) (c0:0<=c) (c1:c<=1) (pr:Value) (pt hs ts cs ds er:A_) (RR:Rws) (w0 w:World) (ss:List Sl) (hm:Own w0 w ((gp,PR pt hs (MS a V M m p s k) ts cs ds er)::RR) ss) (Q:Rws->Prop) (CT:Hid (∀ W g,Own w0 W (g::(gp,PR pt hs (MS a V M m p s k) ts cs ds er)::RR) ss->Calls prog 124 #[.pointer (some ⟨gp,0,none⟩),pr,.int .i64 1] W fun x w'=>(x=.returned (.tuple #[.int .u32 c,.agg (EVT 0 0 0 0 0 (.slice none 0 0) 0),.bool true]))/\∃ RR',Q RR'/\Own w0 w' (g::(gp,PR pt hs (MS a V M m p s k) ts cs ds er)::RR') ss)) (ts2:A_) (CS:Hid (∀ w,Calls prog 126 #[.agg ts,.int .i64 c] w (RB w (.tuple #[.agg ts2,.bool true,.int .i64 0])))) (hz:PRz pt hs (MS a V M m p s k) ts cs ds er) (k2:ts2.size=262) (o2:∀ v ∈ ts2,v.oneCell'=true) (cs2 ds2 L:A_) (hl:ts2.extract 0 (0+L.size)=L) (kl:L.size=258) (kc:cs2.size=260) (oc:∀ v ∈ cs2,v.oneCell'=true) (kd:ds2.size=260) (od:∀ v ∈ ds2,v.oneCell'=true) (CP:Hid (∀ w,Calls prog 127 #[.agg L] w (RB w (.tuple #[.agg cs2,.int .i64 0])))) (CD:Hid (∀ w,Calls prog 128 #[.int .i64 m] w (RB w (.agg ds2)))):Calls prog 82 #[.pointer (some ⟨gp,0,none⟩),pr] w fun x w'=>(x=.returned (.tuple #[.agg (EVT 0 0 0 0 0 (.slice none 0 0) 0),.bool false]))/\∃ RR',Q RR'/\Own w0 w' ((gp,PR (PT 4) hs (MS a V M m p s k) ts2 cs2 ds2 er)::RR') ss:=by
 have HZ:=h_ hz;have HT:Hid (PRz pt hs (MS a V M m p s k) ts2 cs ds er):=h_ (hz.ts_ k2);have K2:=h_ k2;have O2:=h_ o2;have w1:IntKind.i64.wrap c=c:=i_6;clear hz c0 c1 k2 o2;have HC:Hid (PRz pt hs (MS a V M m p s k) ts2 cs2 ds er):=h_ (HT.out.cs_ kc);have HD:Hid (PRz pt hs (MS a V M m p s k) ts2 cs2 ds2 er):=h_ (HC.out.ds_ kd);have HL:=h_ hl;have KL:=h_ kl;have KC:=h_ kc;have OC:=h_ oc;have KD:=h_ kd;have OD:=h_ od;clear hl kl kc oc kd od;go_enter func82,ntmps82
 go_wp2_with (first
  |(go_at_call 124;have _t:=hm;refine (CT.out _ _ hm).mono ?_;clear _t hm CT;rintro x w ⟨rfl,RR2,hQ,hm⟩)
  |(go_at_call 126;refine cB (CS.out _) hm ?_;clear hm;intro w1 hm)
  |(with_reducible first|(refine wa 76 hm BX ?_;clear hm;intro w g hm)|(refine wa 141 hm Jz ?_;clear hm;intro w g9 hm))
  |(with_reducible refine gLd (t:=141) ?_;(first|(refine A8 rfl (ldp 2 hm rfl rfl rfl (PZ HZ.out) HZ.out.V3 (Q9 HZ.out)) ?_)|(refine A8 rfl (lda 0 hm rfl rfl rfl HT.out.V3) ?_)))
  |(with_reducible refine gSt (t:=141) ?_;(first|(refine Ad rfl (Aw 0 hm rfl rfl (Ac rfl) rfl HT.out.V3 (by rw [K2.out,Uj]) O2.out ?_);clear hm;intro w hm;try simp only [puts,s2,List.set] at hm)|(refine Ad rfl (Aj 3 hm rfl rfl (Ac rfl) rfl HT.out.V3 (by rw [Bg HZ.out,K2.out];decide) O2.out (LV HZ.out K2.out) ?_);clear hm;intro w hm;try simp only [puts,s2,List.set] at hm)))
  |(go_at_call 127;refine cB (CP.out _) hm ?_;clear hm;intro w1 hm)
  |(go_at_call 128;refine cB (CD.out _) hm ?_;clear hm;intro w1 hm)
  |(go_at_call 83;refine cB (iF _) hm ?_;clear hm;intro w1 hm)
  |(with_reducible refine gLd (t:=139) ?_;(refine A8 rfl (ldp 0 hm rfl rfl rfl HL.out (ag139 KL.out) (by rw [K2.out,KL.out];decide)) ?_))
  |(with_reducible refine gSt (t:=143) ?_;(refine Ad rfl (Aj 3 hm rfl rfl (Ac rfl) rfl HC.out.L6 (by rw [Bg HT.out,KC.out];decide) OC.out (Jy HT.out KC.out) ?_);clear hm;intro w hm;try simp only [puts,s2,List.set] at hm))
  |(with_reducible refine wl 3 3 hm ?_ (hv:=c_z (yJ HC.out (i:=3) rfl)))
  |(with_reducible refine gSt (t:=147) ?_;(refine Ad rfl (Aj 3 hm rfl rfl (Ac rfl) rfl HD.out.Ud (by rw [Bg HC.out,KD.out];decide) OD.out (Q8 HC.out KD.out) ?_);clear hm;intro w hm;try simp only [puts,s2,List.set] at hm))
  |(with_reducible refine gSt (t:=134) ?_;(refine Ad rfl (Aj 3 hm rfl rfl (Ac rfl) rfl (Cm _) (by rw [Bg HD.out];decide) (Ei _) (Eh HD.out rfl) ?_);clear hm;intro w hm;try simp only [puts,s2,List.set] at hm))
  |(with_reducible (first|refine ws 76 0 hm ?_ (h1:=c_z (Ak _ _ _ _ _ rfl _))|refine ws 76 2 hm ?_ (h1:=c_z (Ak _ _ _ _ _ rfl _)));clear hm;intro w hm)
  |(with_reducible refine wla 76 1 hm ?_))
 exact xa4
theorem aT (gp:Nat) (c:Int) (c0:0<=c) (c1:c<=1) (pr:Value) (pt hs ms ts cs ds er:A_) (RR:Rws) (w0 w:World) (ss:List Sl) (hm:Own w0 w ((gp,PR pt hs ms ts cs ds er)::RR) ss) (Q:Rws->Prop) (CT:Hid (∀ W g,Own w0 W (g::(gp,PR pt hs ms ts cs ds er)::RR) ss->Calls prog 124 #[.pointer (some ⟨gp,0,none⟩),pr,.int .i64 1] W fun x w'=>(x=.returned (.tuple #[.int .u32 c,.agg (EVT 0 0 0 0 0 (.slice none 0 0) 0),.bool true]))/\∃ RR',Q RR'/\Own w0 w' (g::(gp,PR pt hs ms ts cs ds er)::RR') ss)) (ts2:A_) (CS:Hid (∀ w,Calls prog 126 #[.agg ts,.int .i64 c] w (RB w (.tuple #[.agg ts2,.bool false,.int .i64 100])))) (hz:PRz pt hs ms ts cs ds er) (k2:ts2.size=262) (o2:∀ v ∈ ts2,v.oneCell'=true) :Calls prog 82 #[.pointer (some ⟨gp,0,none⟩),pr] w fun x w'=>(x=.returned (.tuple #[.agg (EVT 8 0 0 0 0 (.slice none 0 0) 100),.bool true]))/\∃ RR',Q RR'/\Own w0 w' ((gp,PR (PT 8) hs ms ts cs ds (ER 100))::RR') ss:=by
 have HZ:=h_ hz;have HT:Hid (PRz pt hs ms ts2 cs ds er):=h_ (hz.ts_ k2);have K2:=h_ k2;have O2:=h_ o2;have w1:IntKind.i64.wrap c=c:=i_6;clear hz c0 c1 k2 o2;have CW:Hid (∀ {W} {g9 g7 g:Nat × A_} {RR2},Own w0 W (g9::g7::g::(gp,PR pt hs ms ts cs ds er)::RR2) ss->Calls prog 125 #[.pointer (some ⟨gp,0,none⟩),.int .i64 100] W fun x w'=>(x=.returned (.tuple #[.agg (EVT 8 0 0 0 0 (.slice none 0 0) 100),.bool true]))/\Own w0 w' (g9::g7::g::(gp,PR (PT 8) hs ms ts cs ds (ER 100))::RR2) ss):=h_ fun h=>(Gf gp pt hs ms ts cs ds er 100 w0 _ _ ss (h.front 3 rfl) HZ.out).mono fun x w' h=>⟨h.1,h.2.A1F⟩;go_enter func82,ntmps82
 go_wp2_with (first
  |(go_at_call 124;have _t:=hm;refine (CT.out _ _ hm).mono ?_;clear _t hm CT;rintro x w ⟨rfl,RR2,hQ,hm⟩)
  |(go_at_call 126;refine cB (CS.out _) hm ?_;clear hm;intro w1 hm)
  |(go_at_call 125;have _t:=hm;refine (CW.out hm).mono ?_;clear _t hm;rintro x w ⟨rfl,hm⟩)
  |(with_reducible first|(refine wa 76 hm BX ?_;clear hm;intro w g hm)|(refine wa 141 hm Jz ?_;clear hm;intro w g9 hm))
  |(with_reducible refine gLd (t:=141) ?_;((refine A8 rfl (ldp 2 hm rfl rfl rfl (PZ HZ.out) HZ.out.V3 (Q9 HZ.out)) ?_)))
  |(with_reducible refine ws 141 0 hm ?_ (ht:=c_z HT.out.V3) (hs:=(by with_unfolding_all rw [K2.out,Uj])) (h1:=c_z O2.out);clear hm;intro w hm)
  |(with_reducible (first|refine ws 76 0 hm ?_ (h1:=c_z (Ak _ _ _ _ _ rfl _))|refine ws 76 2 hm ?_ (h1:=c_z (Ak _ _ _ _ _ rfl _)));clear hm;intro w hm)
   )
 exact xa4
variable {l m:I_}
def cn0 (l:I_) (n:Nat):Int:=if n=0 then 0 else gi (Ji l) n
def pfc (l:I_):Nat->Int
|0=>0
|n+1=>(pfc l n+cn0 l n) * 2
theorem YX (hl:l.length=258) (hb:Bytes l):(Ji l).length=16/\∀ x ∈ Ji l,0<=x/\x<=258:=by
 have h:=QU l hb l.length (Nat.le_refl _);rw [List.take_length,hl] at h;exact h
theorem Jq (hl:l.length=258) (hb:Bytes l) (n:Nat) (hn:n < 16):0<=cn0 l n/\cn0 l n<=258:=by
 rw [cn0];split
 ·omega
 ·obtain ⟨h1,h2⟩:=YX hl hb;exact h2 _ (by rw [BZ _ n (by omega)];exact List.getElem_mem _)
theorem Jf {l:I_} (hl:l.length=258) (hb:Bytes l):∀ n:Nat,n<=16->0<=pfc l n/\pfc l n<=1000 * (2 ^ n - 1)
|0,_=>by simp [pfc]
|n+1,h=>by
  have h1:=Jf hl hb n (by omega);have h2:=Jq hl hb n (by omega);have h3:(1:Int)<=2 ^ n:=Int.le_of_lt_add_one (by have:(0:Int) < 2 ^ n:=Int.pow_pos (by decide);omega);rw [pfc,Int.pow_succ];omega
def c16 (l:I_):I_:=(Ji l).set 0 0
theorem A2q (h:(Ji l).length=16) (n:Nat):gi (c16 l) n=cn0 l n:=by
 rw [c16,DY (by omega),cn0]
theorem zN (h:l.length=16) (k:m.length=16):(J .i64 l).size=(J .i64 m).size:=by rw [Df,Df,h,k]
theorem first_any (l:I_) (bits:Nat) (w0:World) (hl:l.length=258) (hb:Bytes l) (hn:bits<=15):Calls prog 171 #[.agg (J .u8 l),.int .i64 bits] w0 (RB w0 (.tuple #[.int .i64 (pfc l bits),.int .i64 (cn0 l bits)])):=by
 have HL:=h_ hl;have hk:=YX hl hb;have HK:=h_ hk.1;have HC:=h_ (show (c16 l).length=16 by rw [c16,List.length_set];exact hk.1);have CC:=h_ (fun w=>TN l w hl hb);have HS:Hid ((J .i64 (Ji l)).setIfInBounds 0 (.int .i64 0)=J .i64 (c16 l)):=h_ (Y0 .i64 _ 0 0);have HP:Hid (∀ n:Nat,n<=16->0<=pfc l n/\pfc l n<=1000 * (2 ^ n - 1)):=h_ (Jf hl hb);have HN:Hid (∀ n:Nat,n < 16->0<=cn0 l n/\cn0 l n<=258):=h_ (Jq hl hb);have HG:Hid (∀ n:Nat,n < 16->(J .i64 (c16 l))[n]?=some (.int .i64 (cn0 l n))):=h_ fun n h=>by rw [XC .i64 _ n (by rw [HC.out];exact h),A2q HK.out]
 clear hl hb hk;generalize c16 l=c at *;generalize Ji l=c0 at *;go_enter func171,ntmps171;have hm:=Own.nil w0
 go_wp2_with (first
 |(go_at_call 214;refine cB (CC.out _) hm ?_;clear hm;intro w1 hm)
 |(with_reducible refine wb hm ?_;clear hm;intro w g hm)
 |(with_reducible refine gAl ?_;(with_reducible refine wa _ hm gQ ?_;clear hm;intro w g2 hm))
 |(with_reducible first|(refine wla 139 0 hm ?_ (ht:=c_z (F5 HL.out)))|(refine ws 296 0 hm ?_ (ht:=c_z (A0R HK.out)) (hs:=c_z (zN HK.out (l_r ..))) (h1:=c_z (J_one _ _));clear hm;intro w hm))
 |(with_reducible refine gSt (t:=3) ?_;(refine Ad rfl (AZ 0 hm rfl rfl UU rfl (ot rfl) (by rw [Df,HK.out];decide) rfl rfl HS.out ?_);clear hm;intro w hm;try simp only [puts,s2,List.set] at hm)))
 go_loopw [4,7] (fun z u wr=>∃ k:Nat,k<=bits/\u=.int .i64 (k+1)/\z=.int .i64 (pfc l k)/\Own w0 wr [(g2,J .i64 c),(g,J .u8 l)] []) (fun _ u _=>bits+1 - (intOf u).toNat)
 case atStart=>exact ⟨0,by omega,rfl,rfl,hm⟩
 case round =>
  clear hm;obtain ⟨k,hk,rfl,rfl,hm⟩:=hrel;by_cases hlt:k < bits
  ·have q1:decide ((k:Int)+1<=bits)=true:=d_t;have h1:=HP.out k (by omega);have h2:=HN.out k (by omega);have h3:(2:Int) ^ k<=2 ^ 16:=by exact_mod_cast Nat.pow_le_pow_right (show 0 < 2 by decide) (show k<=16 by omega)
   have e1:IntKind.i64.wrap ((k:Int)+1 - 1)=k:=by rw [IntWalk.i64_in _ (by omega)];omega
   have w1:IntKind.i64.wrap (pfc l k+cn0 l k)=pfc l k+cn0 l k:=i_6;have w2:IntKind.i64.wrap ((pfc l k+cn0 l k) * 2)=(pfc l k+cn0 l k) * 2:=i_6;have w3:IntKind.i64.wrap ((k:Int)+1+1)=(k:Int)+1+1:=i_6;have hci:=HG.out k (by omega);have HE:Hid (pfc l (k+1)=(pfc l k+cn0 l k) * 2):=h_ rfl;have hk16:k < 16:=by omega
   clear h1 h2 h3;generalize pfc l k=x at *;generalize cn0 l k=y at *
   go_wp2_with (first
    |(with_reducible refine wl 3 0 hm ?_ (hv:=c_z hci)))
   go_roundw
   case rel=>exact ⟨k+1,by omega,by go_num,by rw [HE.out],hm⟩
   case measure=>simp [intOf];omega
  ·obtain rfl:bits=k:=by omega
   have q1:decide ((bits:Int)+1<=bits)=false:=d_f;have hci:=HG.out bits (by omega);have hk16:bits < 16:=by omega
   go_upto_region 7 with fail
   refine rO hm 6 (.rds [(0,false),(1,false),(2,false),(3,true),(4,false),(5,false)] .done) ?_;clear hm;intro w hm;simp only [KT.rds]
   iterate 2 refine kq ?_
   (refine K_p rfl rfl (fun W=>by go_simp;rw [if_pos (by omega)]) ?_)
   try simp only [Act.put,s3]
   refine km (fun W hm=>ld 0 hm rfl rfl rfl (ot rfl) hci) ?_
   iterate 2 refine kq ?_
   refine Ba ?_;go_simp;go_wp2
   go_ret2
   exact xg6
variable {a:Act} {cs ns zc:A_} {b c:Int} {l:I_} {k n off:Nat} {o:Oper} {x y z:Operand} {t:TypeId} {w:World}
theorem VE (off:Nat):∀ (vs:L_) (j:Nat) (cs:A_),(vs.zipIdx j).foldl (fun (cs:A_) (c:Value × Nat)=>cs.setIfInBounds (off+c.2) c.1) cs=puts cs (off+j) vs
|[],_,_=>rfl
|v::vs,j,cs=>by rw [List.zipIdx_cons,List.foldl_cons,VE off vs (j+1),puts];rfl
theorem wF {places:Nat->Option (Nat × Nat)} (vs:L_) {v:Value} {rest:List (Nat × Value)} (hp:places k=some (off,n)) (hv:v.cells=vs.toArray) (hn:vs.length=n) (hf:off+n<=cs.size) (hs:splice cs off vs.toArray=ns) :
  Instr.fill places cs ((k,v)::rest)=Instr.fill places ns rest:=by
 subst hn;simp only [Instr.fill,hp,hv];split
 ·rename_i h;simp at h;omega
 rw [<- hs,Qg cs off vs hf]
 congr 1
 have h:=VE off vs 0 cs;rw [Nat.add_zero] at h;rw [<- h,<- Array.foldl_toList,Array.toList_zipIdx]
theorem Zj {places:Nat->Option (Nat × Nat)} (vs:L_) {rest:List (Nat × Value)} (hp:places k=some (off,n)) (hn:vs.length=n) (hf:off+n<=cs.size) (hs:splice cs off vs.toArray=ns) :
  Instr.fill places cs ((k,.agg vs.toArray)::rest)=Instr.fill places ns rest:=wF vs hp rfl hn hf hs
theorem VG {places:Nat->Option (Nat × Nat)} {v:Value} {rest:List (Nat × Value)} (hp:places k=some (off,1)) (hv:v.cells=#[v]) (hf:off < cs.size) (hs:cs.setIfInBounds off v=ns) :
  Instr.fill places cs ((k,v)::rest)=Instr.fill places ns rest:=by
 simp only [Instr.fill,hp,hv];split
 ·rename_i h;simp at h;omega
 rw [<- hs];rfl
theorem VT {places:List (Nat × Nat)} (hu:prog.underlying t=some (.struct (prog.fieldsOf t))) (hf:(prog.fieldsOf t).toList.mapM (fun f=>(prog.info? f.type).map fun i=>(f.offset,i.size))=some places) (hz:∀ w,(zeroValue t).run prog w=.ok (.agg zc) w) (hi:(prog.info? t).isSome=true) (w:World)
  (parts:List (Nat × Value)):prog.built t parts=Instr.fill (places.toArray[·]?) zc parts:=by
 obtain ⟨i,hi⟩:=Option.isSome_iff_exists.1 hi
 have hzi:i.zero=some (.agg zc):=by
  have:=hz w;simp [zeroValue,typeInfo,hi] at this;cases hzz:i.zero with
 |none=>simp [hzz] at this
 |some z=>simp [hzz] at this;rw [this]
 unfold Program.built;rw [hi,hu];simp only [hzi,hf];rfl
theorem MO (ho:o.op=.build 143 #[(0,x)]) (hx:a.eval x=.agg (J .u8 l)) (hl:l.length=258):(execOp a.eval o).run prog w=.ok (.value (.agg (CS l 0 0))) w:=by
 refine Dq ho ?_;rw [VT (places:=[(0,258),(258,1),(259,1)]) (by kernel_rfl) (by kernel_rfl) QA (by kernel_rfl) w];simp only [l_y,List.map_cons,List.map_nil,hx];rw [show J .u8 l=(vs .u8 l).toArray from rfl,Zj (vs .u8 l) rfl (by rw [Ai,hl]) (by rw [CU Az];omega) (aA Az hl)];rfl
theorem Kq (ho:o.op=.build 143 #[(0,x),(1,y),(2,z)]) (hx:a.eval x=.agg (J .u8 l)) (hy:a.eval y=.int .i64 c) (hz:a.eval z=.int .i64 b) (hl:l.length=258):(execOp a.eval o).run prog w=.ok (.value (.agg (CS l c b))) w:=by
 refine Dq ho ?_;rw [VT (places:=[(0,258),(258,1),(259,1)]) (by kernel_rfl) (by kernel_rfl) QA (by kernel_rfl) w];simp only [l_y,List.map_cons,List.map_nil,hx,hy,hz];rw [show J .u8 l=(vs .u8 l).toArray from rfl,Zj (vs .u8 l) rfl (by rw [Ai,hl]) (by rw [CU Az];omega) (aA Az hl),VG rfl rfl (A13 hl) (yU hl c),VG rfl rfl (A15 hl) (yV hl b)];rfl
def pof:I_->Int->Int->Int->Int
|[],_,_,_=>0
|n::r,b,p,s=>if n=b then if p=0 then s else pof r b (p - 1) (s+1) else pof r b p (s+1)
theorem A26 (l:I_) (b p:Int) (w0:World) (hl:l.length=258) (hb:Bytes l) (p0:0<=p) (p1:p<=1000000):Calls prog 172 #[.agg (J .u8 l),.int .i64 b,.int .i64 p] w0 (RB w0 (.int .i64 (pof l b p 0))):=by
 have HB:=h_ hb;have HL:=h_ hl;obtain ⟨r,hr⟩:∃ r,r=pof l b p 0:=⟨_,rfl⟩;rw [<- hr];have HR:=h_ hr;clear hb hr;go_enter func172,ntmps172;have hm:=Own.nil w0
 go_wp2_with (first
 |(with_reducible first|(refine wb hm ?_;clear hm;intro w g hm)|(refine wla 139 0 hm ?_ (ht:=c_z (F5 HL.out)))))
 go_loopw [2,10] (fun z u wr=>∃ (k:Nat) (q:Int),k<=258/\0<=q/\q<=1000000/\u=.int .i64 k/\z=.int .i64 q/\r=pof (l.drop k) b q k/\Own w0 wr [(g,J .u8 l)] []) (fun _ u _=>258 - (intOf u).toNat)
 case atStart=>exact ⟨0,p,by omega,p0,p1,rfl,rfl,HR.out,hm⟩
 case round =>
  clear hm;obtain ⟨k,q,hk,q0,q1,rfl,rfl,hr,hm⟩:=hrel;by_cases hlt:k < 258
  ·have hkl:k < l.length:=by rw [HL.out];exact hlt
   have hg:(J .u8 l)[k]?=some (.int .u8 (gi l k)):=XC .u8 l k hkl;have hx:=HB.out _ (show gi l k ∈ l by rw [BZ l k hkl];exact List.getElem_mem _);rw [List.drop_eq_getElem_cons hkl,<- BZ l k hkl,pof] at hr;have w1:IntKind.i64.wrap (gi l k)=gi l k:=i_6;clear hx hkl;generalize gi l k=x at *;by_cases he:x=b
   ·subst he;rw [if_pos rfl] at hr;by_cases hz:q=0
    ·subst hz;rw [if_pos rfl] at hr;have HRR:=h_ hr;clear hr
     go_wp2_with (first
     |(with_reducible refine gIx ?_;(refine A8 rfl (DZ rfl rfl rfl underlying139 FV hlt hg) ?_)))
     go_ret;exact ⟨by rw [HRR.out];rfl,hm.below⟩
    ·rw [if_neg hz] at hr;have HRR:=h_ hr;have z1:(q == 0)=false:=by simpa using hz
     have w2:IntKind.i64.wrap (q - 1)=q - 1:=i_6;have q2:0<=q - 1:=by omega
     clear hr hz
     go_wp2_with (first
     |(with_reducible refine gIx ?_;(refine A8 rfl (DZ rfl rfl rfl underlying139 FV hlt hg) ?_)))
     go_roundw
     case rel=>exact ⟨k+1,q - 1,by omega,q2,by omega,by go_num,rfl,HRR.out,hm⟩
     case measure=>simp [intOf];omega
   ·rw [if_neg he] at hr;have HRR:=h_ hr;have z1:(x == b)=false:=by simpa using he
    have z2:(x != b)=true:=by simpa using he
    clear hr he
    go_wp2_with (first
    |(with_reducible refine gIx ?_;(refine A8 rfl (DZ rfl rfl rfl underlying139 FV hlt hg) ?_)))
    go_roundw
    case rel=>exact ⟨k+1,q,by omega,q0,q1,by go_num,rfl,HRR.out,hm⟩
    case measure=>simp [intOf];omega
  ·obtain rfl:k=258:=by omega
   rw [List.drop_of_length_le (by rw [HL.out];exact Nat.le_refl _),pof] at hr;have HRR:=h_ hr;clear hr;go_wp2;go_ret;exact ⟨by rw [HRR.out];rfl,hm.below⟩
theorem Dn {l m:I_} {c b c' b':Int} (h:l.length=258) (k:m.length=258):(CS l c b).size=(CS m c' b').size:=by rw [CU h,CU k]
theorem Yh (l:I_) (hl:l.length=258) (hb:Bytes l) (hk:JL l=true) (w:World):Calls prog 127 #[.agg (J .u8 l)] w (RB w (.tuple #[.agg (CS l 0 0),.int .i64 0])):=by
 have HL:=h_ hl;have CT:=h_ (fun w=>table_any l w hl hb);rw [hk] at CT;clear hl hb hk;go_enter func127,ntmps127;have hm:=Own.nil w
 go_wp2_with (first
  |(go_at_call 168;refine cB (CT.out _) hm ?_;clear hm;intro w1 hm)
  |(with_reducible refine wb hm ?_;clear hm;intro w g hm)
  |(with_reducible refine gAl ?_;(with_reducible refine wa _ hm QA ?_;clear hm;intro w g hm))
  |(with_reducible refine wla 139 1 hm ?_ (ht:=c_z (F5 HL.out)))
  |(with_reducible refine gBu ?_;(refine A8 rfl (MO rfl rfl HL.out) ?_))
  |(with_reducible refine ws 143 0 hm ?_ (ht:=c_z (DT HL.out)) (hs:=c_z (Dn HL.out Az)) (h1:=c_z (Eb _ _ _));clear hm;intro w hm))
 refine b_r (Af rfl rfl (hm.row 0 rfl) (DT HL.out)) rfl ⟨rfl,hm.below⟩
theorem RN (l:I_) (c:Int) (n:Nat) (w0:World) (hl:l.length=258) (hb:Bytes l) (hk:JL l=true) (hn:n < 15) (c0:0<=c) (c1:c < 2 ^ n) (hc:pfc l n+cn0 l n<=c):Calls prog 170 #[.agg (CS l c n)] w0 (fun e w'=>(e=.returned (.bool true))/\Below w0.heap.size w0 w'):=by
 have HL:=h_ hl;have CT:=h_ (fun w=>table_any l w hl hb);have CF:=h_ (fun w=>first_any l n w hl hb (by omega));rw [hk] at CT;have b1:=Jf hl hb n (by omega);have b2:=Jq hl hb n (by omega);have h3:(2:Int) ^ n<=2 ^ 16:=by exact_mod_cast Nat.pow_le_pow_right (show 0 < 2 by decide) (show n<=16 by omega)
 have w1:IntKind.i64.wrap (pfc l n+cn0 l n)=pfc l n+cn0 l n:=i_6;have q1:decide ((n:Int) < 0)=false:=d_f;have q2:decide (15<=(n:Int))=false:=d_f;have q3:decide (c < 0)=false:=d_f;have q4:decide (pfc l n+cn0 l n<=c)=true:=decide_eq_true hc;have e1:c / 2 ^ n=0:=Int.ediv_eq_zero_of_lt c0 c1;clear hl hb hk b1 b2 h3 hc c1;generalize pfc l n=x at *;generalize cn0 l n=y at *;go_enter func170,ntmps170;have hm:=Own.nil w0
 go_wp2_with (first
  |(go_at_call 168;refine cB (CT.out _) hm ?_;clear hm;intro w1 hm)
  |(go_at_call 171;refine cB (CF.out _) hm ?_;clear hm;intro w1 hm)
  |(with_reducible refine wb hm ?_;clear hm;intro w g hm)
  |(with_reducible refine wl 3 0 hm ?_ (hv:=(by with_unfolding_all (first|exact (LZ HL.out)|exact (Mc HL.out)))))
  |(with_reducible refine gLd (t:=139) ?_;(refine A8 rfl (ldp 0 hm rfl rfl rfl (II HL.out) (F5 HL.out) (IJ HL.out)) ?_)))
 go_ret;exact xg6
theorem Yf (l:I_) (c bit:Int) (n:Nat) (w0:World) (hl:l.length=258) (hb:Bytes l) (hk:JL l=true) (hn:n < 15) (c0:0<=c) (c1:c < 2 ^ n) (hc:pfc l n+cn0 l n<=c) (h0:0<=bit) (h1:bit<=1) (hx:pfc l (n+1)+cn0 l (n+1)<=2 * c+bit):Calls prog 129 #[.agg (CS l c n),.int .i64 bit] w0 (fun e w'=>(e=.returned (.tuple #[.agg (CS l (2 * c+bit) (n+1)),.int .i64 0,.bool false]))/\Below w0.heap.size w0 w'):=by
 have HL:=h_ hl;have CV:=h_ (fun w=>RN l c n w hl hb hk hn c0 c1 hc);have CF:Hid (∀ w,Calls prog 171 #[.agg (J .u8 l),.int .i64 ((n:Int)+1)] w (RB w (.tuple #[.int .i64 (pfc l (n+1)),.int .i64 (cn0 l (n+1))]))):=h_ (fun w=>first_any l (n+1) w hl hb (by omega));have b1:=Jf hl hb (n+1) (by omega);have b2:=Jq hl hb (n+1) (by omega);have h3:(2:Int) ^ (n+1)<=2 ^ 16:=by exact_mod_cast Nat.pow_le_pow_right (show 0 < 2 by decide) (show n+1<=16 by omega)
 have h4:(2:Int) ^ n<=2 ^ 16:=by exact_mod_cast Nat.pow_le_pow_right (show 0 < 2 by decide) (show n<=16 by omega)
 have w1:IntKind.i64.wrap (pfc l (n+1)+cn0 l (n+1))=pfc l (n+1)+cn0 l (n+1):=i_6;have w2:IntKind.i64.wrap (c * 2)=c * 2:=i_6;have w3:IntKind.i64.wrap ((n:Int)+1)=(n:Int)+1:=i_6;have e1:bits .or .i64 (c * 2) bit=2 * c+bit:=bY c bit c0 (by omega) h0 h1;have q0:bit / 2=0:=by omega
 have hge:pfc l (n+1)<=2 * c+bit:=by rw [pfc];omega
 have q4:decide (pfc l (n+1)+cn0 l (n+1)<=2 * c+bit)=true:=decide_eq_true hx;clear hl hb hk b1 b2 h3 h4 hc c1 hge hx;generalize pfc l (n+1)=x at *;generalize cn0 l (n+1)=y at *;go_enter func129,ntmps129;have hm:=Own.nil w0
 go_wp2_with (first
  |(go_at_call 170;refine cB (CV.out _) hm ?_;clear hm;intro w1 hm)
  |(go_at_call 171;refine cB (CF.out _) hm ?_;clear hm;intro w1 hm)
  |(with_reducible refine wb hm ?_;clear hm;intro w g hm)
  |(with_reducible refine gAl ?_;(with_reducible refine wa _ hm QA ?_;clear hm;intro w g2 hm))
  |(with_reducible (first|refine wl 3 0 hm ?_ (hv:=(by with_unfolding_all (first|exact (LZ HL.out)|exact (Mc HL.out))))|refine wl 3 1 hm ?_ (hv:=(by with_unfolding_all (first|exact (LZ HL.out)|exact (Mc HL.out))))))
  |(with_reducible (first|refine wla 143 1 hm ?_ (ht:=c_z (DT HL.out))|refine wla 143 0 hm ?_ (ht:=c_z (DT HL.out))))
  |(with_reducible refine gLd (t:=139) ?_;(first|(refine A8 rfl (ldp 0 hm rfl rfl rfl (II HL.out) (F5 HL.out) (IJ HL.out)) ?_)|(refine A8 rfl (ldp 1 hm rfl rfl rfl (II HL.out) (F5 HL.out) (IJ HL.out)) ?_)))
  |(with_reducible refine gBu ?_;(refine A8 rfl (Kq rfl rfl rfl rfl HL.out) ?_))
  |(with_reducible (first|refine ws 143 0 hm ?_ (ht:=c_z (DT HL.out)) (hs:=c_z (Dn HL.out Az)) (h1:=c_z (Eb _ _ _))|refine ws 143 0 hm ?_ (ht:=c_z (DT HL.out)) (hs:=c_z (Dn HL.out HL.out)) (h1:=c_z (Eb _ _ _)));clear hm;intro w hm))
 exact xew
theorem Yg (l:I_) (c bit:Int) (n:Nat) (w0:World) (hl:l.length=258) (hb:Bytes l) (hk:JL l=true) (hn:n < 15) (c0:0<=c) (c1:c < 2 ^ n) (hc:pfc l n+cn0 l n<=c) (h0:0<=bit) (h1:bit<=1) (hx:¬ pfc l (n+1)+cn0 l (n+1)<=2 * c+bit):Calls prog 129 #[.agg (CS l c n),.int .i64 bit] w0 (fun e w'=>(e=.returned (.tuple #[.agg (CS l 0 0),.int .i64 (pof l (n+1) (2 * c+bit - pfc l (n+1)) 0),.bool true]))/\Below w0.heap.size w0 w'):=by
 have HL:=h_ hl;have CV:=h_ (fun w=>RN l c n w hl hb hk hn c0 c1 hc);have CF:Hid (∀ w,Calls prog 171 #[.agg (J .u8 l),.int .i64 ((n:Int)+1)] w (RB w (.tuple #[.int .i64 (pfc l (n+1)),.int .i64 (cn0 l (n+1))]))):=h_ (fun w=>first_any l (n+1) w hl hb (by omega));have b1:=Jf hl hb (n+1) (by omega);have b2:=Jq hl hb (n+1) (by omega);have h3:(2:Int) ^ (n+1)<=2 ^ 16:=by exact_mod_cast Nat.pow_le_pow_right (show 0 < 2 by decide) (show n+1<=16 by omega)
 have h4:(2:Int) ^ n<=2 ^ 16:=by exact_mod_cast Nat.pow_le_pow_right (show 0 < 2 by decide) (show n<=16 by omega)
 have w1:IntKind.i64.wrap (pfc l (n+1)+cn0 l (n+1))=pfc l (n+1)+cn0 l (n+1):=i_6;have w2:IntKind.i64.wrap (c * 2)=c * 2:=i_6;have w3:IntKind.i64.wrap ((n:Int)+1)=(n:Int)+1:=i_6;have e1:bits .or .i64 (c * 2) bit=2 * c+bit:=bY c bit c0 (by omega) h0 h1;have q0:bit / 2=0:=by omega
 have hge:pfc l (n+1)<=2 * c+bit:=by rw [pfc];omega
 have q4:decide (pfc l (n+1)+cn0 l (n+1)<=2 * c+bit)=false:=decide_eq_false hx;have w4:IntKind.i64.wrap (2 * c+bit - pfc l (n+1))=2 * c+bit - pfc l (n+1):=i_6;have CO:=h_ (fun w=>A26 l (n+1) (2 * c+bit - pfc l (n+1)) w hl hb (by omega) (by omega));clear hl hb hk b1 b2 h3 h4 hc c1 hge hx;generalize pof l (n+1) (2 * c+bit - pfc l (n+1)) 0=z at *;generalize pfc l (n+1)=x at *;generalize cn0 l (n+1)=y at *;go_enter func129,ntmps129;have hm:=Own.nil w0
 go_upto_region 7 with (first
  |(go_at_call 170;refine cB (CV.out _) hm ?_;clear hm;intro w1 hm)
  |(go_at_call 171;refine cB (CF.out _) hm ?_;clear hm;intro w1 hm)
  |(with_reducible refine wb hm ?_;clear hm;intro w g hm)
  |(with_reducible refine gAl ?_;(with_reducible refine wa _ hm QA ?_;clear hm;intro w g2 hm))
  |(with_reducible (first|refine wl 3 0 hm ?_ (hv:=(by with_unfolding_all (first|exact (LZ HL.out)|exact (Mc HL.out))))|refine wl 3 1 hm ?_ (hv:=(by with_unfolding_all (first|exact (LZ HL.out)|exact (Mc HL.out))))))
  |(with_reducible refine wla 143 1 hm ?_ (ht:=c_z (DT HL.out)))
  |(with_reducible refine gLd (t:=139) ?_;(first|(refine A8 rfl (ldp 0 hm rfl rfl rfl (II HL.out) (F5 HL.out) (IJ HL.out)) ?_)|(refine A8 rfl (ldp 1 hm rfl rfl rfl (II HL.out) (F5 HL.out) (IJ HL.out)) ?_)))
  |(with_reducible refine gBu ?_;(refine A8 rfl (Kq rfl rfl rfl rfl HL.out) ?_))
  |(with_reducible refine ws 143 0 hm ?_ (ht:=c_z (DT HL.out)) (hs:=c_z (Dn HL.out Az)) (h1:=c_z (Eb _ _ _));clear hm;intro w hm))
 refine rO hm 12 (.rds [(0,false),(1,true),(2,false),(3,false),(4,true),(5,false),(6,true),(7,false),(8,true),(9,false),(10,false)] (.one 11 (.brk 12 15 (.rds [(13,false),(14,false)] .done)))) ?_;clear hm;intro w hm;simp only [KT.rds];refine kq ?_;refine km (fun W hm=>ldp 1 hm rfl rfl rfl (II HL.out) (F5 HL.out) (IJ HL.out)) ?_
 (refine K_p rfl rfl (fun W=>MO rfl rfl HL.out) ?_)
 try simp only [Act.put,s3]
 refine kq ?_;refine km (fun W hm=>ldp 0 hm rfl rfl rfl (II HL.out) (F5 HL.out) (IJ HL.out)) ?_;refine kq ?_;refine km (fun W hm=>ld 0 hm rfl rfl rfl (ot rfl) (Mc HL.out)) ?_;refine kq ?_;refine km (fun W hm=>ld 0 hm rfl rfl rfl (ot rfl) (LZ HL.out)) ?_;refine kq ?_
 (refine K_p rfl rfl (fun W=>by go_simp;(rfl)) ?_)
 try simp only [Act.put,s3]
 refine DJ rfl rfl (fun K hK=>?_);go_simp;refine (CO.out _).mono ?_;rintro e w1 ⟨rfl,hb⟩;replace hm:=hm.call hb;clear hb;refine hK _ _ ⟨fun W=>Own _ W _ _,fun _ h=>h,hm,?_⟩;clear hK K
 (refine Em rfl rfl (Aw 0 hm rfl rfl (Ac rfl) rfl (DT HL.out) (Dn HL.out HL.out) (Eb _ _ _) ?_))
 clear hm;intro w hm
 try simp only [puts,s2,List.set,List.eraseIdx,s3] at hm
 refine ⟨fun W=>Own _ W _ _,hm,?_⟩
 try simp only [Act.put,s3]
 iterate 2 refine kq ?_
 refine Ba ?_;go_simp;go_wp2;exact xew
def pfs (l:I_) (c:Int) (n:Nat) (bit:Int):Int × Nat × Int × Bool :=
 if pfc l (n+1)+cn0 l (n+1)<=2 * c+bit then (2 * c+bit,n+1,0,false) else (0,0,pof l (n+1) (2 * c+bit - pfc l (n+1)) 0,true)
structure Uk (l:I_) (c:Int) (n:Nat):Prop where
 len:l.length=258
 byt:Bytes l
 tab:JL l=true
 bit:n < 15
 pos:0<=c
 lt:c < 2 ^ n
 ge:pfc l n+cn0 l n<=c
theorem A59 (l:I_) (c bit:Int) (n:Nat) (h:Uk l c n) (h0:0<=bit) (h1:bit<=1) (w:World):Calls prog 129 #[.agg (CS l c n),.int .i64 bit] w (RB w (.tuple #[.agg (CS l (pfs l c n bit).1 (pfs l c n bit).2.1),.int .i64 (pfs l c n bit).2.2.1,.bool (pfs l c n bit).2.2.2])):=by
 rw [pfs];by_cases hx:pfc l (n+1)+cn0 l (n+1)<=2 * c+bit
 ·rw [if_pos hx];exact Yf l c bit n w h.len h.byt h.tab h.bit h.pos h.lt h.ge h0 h1 hx
 ·rw [if_neg hx];exact Yg l c bit n w h.len h.byt h.tab h.bit h.pos h.lt h.ge h0 h1 hx
open Go Go.RowKit
variable {bit n:Int} {c l:I_}
def cw (c:I_):Int:=gi c 1 * 16384+gi c 2 * 8192+gi c 3 * 4096+gi c 4 * 2048+gi c 5 * 1024+gi c 6 * 512+gi c 7 * 256+gi c 8 * 128+gi c 9 * 64+gi c 10 * 32+gi c 11 * 16+gi c 12 * 8+gi c 13 * 4+gi c 14 * 2+gi c 15
theorem A0y (hc:c.length=16) (h0:0<=n) (h1:n<=15):cw (cnt1 c n)=cw c+share n:=by
 rw [cnt1,if_pos (by omega)];have e:n=0\/n=1\/n=2\/n=3\/n=4\/n=5\/n=6\/n=7\/n=8\/n=9\/n=10\/n=11\/n=12\/n=13\/n=14\/n=15:=by omega
 rcases e with rfl|rfl|rfl|rfl|rfl|rfl|rfl|rfl|rfl|rfl|rfl|rfl|rfl|rfl|rfl|rfl
 all_goals
  simp only [cw];rw [DY (by simp [hc]),DY (by simp [hc]),DY (by simp [hc]),DY (by simp [hc]),DY (by simp [hc]),DY (by simp [hc]),DY (by simp [hc]),DY (by simp [hc]),DY (by simp [hc]),DY (by simp [hc]),DY (by simp [hc]),DY (by simp [hc]),DY (by simp [hc]),DY (by simp [hc]),DY (by simp [hc])];simp [share]
  try omega
theorem wU {l:I_} (hb:Bytes l):∀ k,k<=l.length->J6 l k<=32768->cw (Ji (l.take k))=J6 l k
|0,_,_=>by
  have:Ji (l.take 0)=z16:=rfl;rw [this];simp [J6];decide
|k+1,h,hs=>by
  have hk:=Pq l k h;have hx:=hb (gi l k) (by rw [BZ l k h];exact List.getElem_mem _);have b1:=KE (gi l k);have b2:=Nz l k (by omega)
  have h15:gi l k<=15:=by
   by_cases hn:gi l k<=15
   ·exact hn
   ·have:share (gi l k)=32769:=by rw [share,if_neg (by omega),if_pos (by omega)]
    omega
  rw [Pv l k h,A0y (QU l hb k (by omega)).1 hx.1 h15,wU hb k (by omega) (by omega),hk]
theorem lQ (hl:l.length=258) (hb:Bytes l) (hk:JL l=true):pfc l 15+cn0 l 15=32768:=by
 have hs:J6 l 258=32768:=by
  rw [JL,b_t,beq_iff_eq] at hk;exact hk.1
 have h:=wU hb 258 (by omega) (by omega);rw [List.take_of_length_le (by omega),hs] at h;rw [<- h];simp [pfc,cn0,cw];omega
theorem Uk.zero (hl:l.length=258) (hb:Bytes l) (hk:JL l=true):Uk l 0 0:=⟨hl,hb,hk,by decide,by decide,by decide,by simp [pfc,cn0]⟩
theorem Uk.next {c:Int} {n:Nat} (h:Uk l c n) (h0:0<=bit) (h1:bit<=1):Uk l (pfs l c n bit).1 (pfs l c n bit).2.1:=by
 rw [pfs];split
 ·rename_i hx;have hp:=h.pos;have hlt:=h.lt;have h2:2 * c+bit < 2 ^ (n+1):=by rw [Int.pow_succ];omega
  refine ⟨h.len,h.byt,h.tab,?_,by simp only;omega,h2,hx⟩;have hn:=h.bit;by_cases e:n+1 < 15
  ·exact e
  ·obtain rfl:n=14:=by omega
   have:=lQ h.len h.byt h.tab;have h3:2 * c+bit < 32768:=by simpa using h2
   have h4:pfc l 15+cn0 l 15<=2 * c+bit:=hx;omega
 ·exact Uk.zero h.len h.byt h.tab
theorem Lies.gZ {w w0:World} {A X rs:Rws} {ss:List Sl} {v:Value} {n:Nat} {k:IntKind} {l:I_} (h:Lies 1 X v n (vs k l)) (hm:Own w0 w (A++(X++rs)) ss):In k w v l:=by
 have hn:n=l.length:=by have:=h.1;simp [vs] at this;omega
 subst hn;rcases h.2 with ⟨rfl,hx,h0,rfl⟩|⟨g,p,c,cells,rfl,rfl,hc,hs,hcells⟩
 ·exact ⟨none,0,by rw [h0],fun i hi=>by omega⟩
 ·refine ⟨_,_,rfl,fun i hi=>⟨_,rfl,?_⟩⟩;have hr:=hm.row (i:=A.length) (g:=g) (cs:=cells) (by simp);rw [Addr.add_lit,hr.cell,hcells i (by rw [Ai];exact hi),Fg _ _ i hi]
def AP (l:I_) (i:Nat):Int:=gi l (i / 8) / 2 ^ (7 - i % 8) % 2
theorem A2K (x:Int) (h0:0<=x) (h1:x < 256):bits .and .u8 x 1=x % 2:=bits_mask .u8 8 (by decide) wraps_u8 1 (by decide) x h0 h1
theorem A2u (x:Int) (m:Nat) (h0:0<=x) (h1:x < 256):0<=x / 2 ^ m/\x / 2 ^ m < 256:=by
 have hp:(0:Int) < 2 ^ m:=Int.pow_pos (by decide);have:=Int.ediv_nonneg h0 (show (0:Int)<=2 ^ m by omega);have:=Int.ediv_le_self (2 ^ m) h0;omega
theorem A0H (v:Value) (l:I_) (i:Nat) (hB:Bytes l) (hl:l.length<=100000000) (hi:i < 8 * l.length) (w:World) (hin:In .u8 w v l):Calls prog 143 #[v,.int .i64 i] w fun x w'=>(x=.returned (.int .u8 (AP l i)))/\w'=w:=by
 obtain ⟨ad,c,rfl,hc⟩:=hin;obtain ⟨A,rfl,hA⟩:=hc (i / 8) (by omega);obtain ⟨k,hk⟩:∃ k:Nat,k=i / 8:=⟨_,rfl⟩;obtain ⟨q,hq⟩:∃ q:Nat,q=i % 8:=⟨_,rfl⟩;have hkl:k < l.length:=by omega
 have hb:=hB (gi l k) (by rw [BZ l k hkl];exact List.getElem_mem _);have HR:Hid (AP l i=gi l k / 2 ^ (7 - q) % 2):=h_ (by rw [AP,hk,hq]);rw [<- hk] at hA;obtain ⟨b0,b1⟩:=hb;have e1:bits .and .i64 (i:Int) 7=(q:Int):=by rw [and7 _ (by omega) (by omega)];omega
 have e2:(i:Int) / 8=(k:Int):=by omega
 have hq7:q<=7:=by omega
 have hA':=h_ hA;have HE2:=h_ e2;clear hc hA hk hq e2;generalize gi l k=x at *;obtain ⟨i5,hE⟩:=Md;have HE:=h_ hE;clear hE;go_enter func143,ntmps143
 go_wp2_with (first
 |(refine A8 rfl (Am (k:=k) rfl HE.out rfl rfl HE2.out hkl) ?_)
 |(refine A8 rfl (AU rfl rfl (ot rfl) hA'.out) ?_))
 have hd:=A2u x (7 - q) b0 b1;rw [A2K _ hd.1 hd.2,<- HR.out];exact xg7
def bitsOf (l:I_) (k:Nat):I_:=(List.range k).map (AP l)
theorem ZL (l:I_) (k:Nat):bitsOf l (k+1)=bitsOf l k++[AP l k]:=by simp [bitsOf,List.range_succ]
theorem Ny (l:I_) (k:Nat):(bitsOf l k).length=k:=by simp [bitsOf]
theorem KY (l:I_) (i:Nat):0<=AP l i/\AP l i<=1:=by unfold AP;omega
def kE (w0:World) (l:I_) (rs:Rws) (ss:List Sl) (x:Ending) (w':World):Prop:=∃ X v,x=.returned v/\Lies 1 X v l.length (vs .i64 l)/\Own w0 w' (X++rs) ss
theorem fJ (v:Value) (l:I_) (w0 w:World) (rs:Rws) (ss:List Sl) (hm:Own w0 w rs ss) (hin:∀ W,Own w0 W rs ss->In .u8 W v l) (hB:Bytes l) (hl:l.length<=1000000):Calls prog 102 #[v] w (kE w0 (bitsOf l (8 * l.length)) rs ss):=by
 obtain ⟨ad,c,rfl,_⟩:=hin w hm;have CB:Hid (∀ (i:Nat) W,Own w0 W rs ss->i < 8 * l.length->Calls prog 143 #[.slice ad l.length c,.int .i64 i] W fun x w'=>(x=.returned (.int .u8 (AP l i)))/\w'=W):=h_ fun i W h hi=>A0H _ l i hB (by omega) hi W (hin W h);clear hin;obtain ⟨i5,hE⟩:=wM;have HE:=h_ hE;obtain ⟨i6,hL⟩:=nR;have HL:=h_ hL;clear hE hL;go_enter func102,ntmps102;go_wp2
 go_loopw [2,7] (fun z u wr=>∃ (k:Nat) (X:Rws) (ad:Option Addr) (c:Nat),k<=8 * l.length/\u=.int .i64 k/\z=.slice ad k c/\Lies 1 X z k (vs .i64 (bitsOf l k))/\Own w0 wr (X++rs) ss) (fun _ u _=>8 * l.length - (intOf u).toNat)
 case atStart=>exact ⟨0,[],none,0,by omega,rfl,rfl,Lies.nil 1,hm⟩
 case round =>
  clear hm;obtain ⟨k,X,ad2,c2,hk,rfl,rfl,hX,hm⟩:=hrel;have HX:=h_ hX;clear hX;by_cases hlt:k < 8 * l.length
  ·have q3:decide ((k:Int) < 8 * (l.length:Int))=true:=d_t;have hbd:=KY l k;have HS:=h_ (ZL l k);have CB2:Hid (∀ W,Own w0 W (X++rs) ss->Calls prog 143 #[.slice ad l.length c,.int .i64 k] W fun x w'=>(x=.returned (.int .u8 (AP l k)))/\w'=W):=h_ fun W h=>CB.out k W (h.sub (List.sublist_append_right X rs) (List.Sublist.refl _)) hlt;generalize AP l k=y at *
   go_wp2_with (first
  |(go_at_call 143;refine (CB2.out _ hm).mono ?_;rintro e w1 ⟨rfl,rfl⟩)
  |(refine Ad rfl (JQ hm rfl HL.out (Ac rfl) rfl ?_);clear hm;intro w gb hm)
  |(refine Ad rfl (GR (A:=[_]) (X:=X) hm rfl HE.out (Ac rfl) HX.out (Ac rfl) (fun W h=>From.one (h.row 0 rfl)) (tJ rfl) (by omega) (by omega) (by omega) ?_);clear hm;intro X2 v2 w hX2 hm;simp only [s2] at hm;replace hm:=hm.dropRow;obtain ⟨ad2,c2,rfl⟩:=hX2.shape;have HX2:=h_ hX2;clear hX2))
   have HX3:=HX2.out;rw [yZ,qy,<- HS.out] at HX3;clear HX2;have HX4:=h_ HX3;clear HX3;go_roundw
   case rel=>exact ⟨k+1,X2,ad2,c2,by omega,by go_num,rfl,HX4.out,hm⟩
   case measure=>simp [intOf];omega
  ·obtain rfl:k=8 * l.length:=by omega
   go_wp2;go_ret;exact ⟨X,_,rfl,by rw [Ny];exact HX.out,hm⟩
variable {l:I_} {c k:Nat}
theorem A1D (w:World):(zeroValue 184).run prog w=.ok (.agg (J .i64 (tab 257 fun _=>0))) w:=by kernel_rfl
def Iy (l:I_) (k j:Nat):Int:=if j=0 then 0 else eqn (l.take k) (j - 1)
def G7 (l:I_) (k j:Nat):Int:=if j<=k then lsn l j else eqn l (j - 1)
def FK (l:I_) (k j:Nat):Int:=lsn l j+eqn (l.take k) j
theorem wY (hk:k < l.length) (hc:gi l k=c) (j:Nat):(if j=c+1 then Iy l k (c+1)+1 else Iy l k j)=Iy l (k+1) j:=by
 by_cases h:j=c+1
 ·subst h;rw [if_pos rfl];simp only [Iy];rw [if_neg (by omega),if_neg (by omega),Nat.add_sub_cancel,Jm l k hk,hc,if_pos rfl]
 ·rw [if_neg h];simp only [Iy];by_cases h0:j=0
  ·subst h0;simp
  ·rw [if_neg h0,if_neg h0,Jm l k hk,hc,if_neg (by omega),Int.add_zero]
theorem wX (k j:Nat):(if j=k+1 then G7 l k (k+1)+G7 l k k else G7 l k j)=G7 l (k+1) j:=by
 simp only [G7];by_cases h:j=k+1
 ·subst h;rw [if_pos rfl,if_neg (by omega),if_pos (Nat.le_refl _),if_pos (Nat.le_refl _),YO];rfl
 ·rw [if_neg h];by_cases h2:j<=k
  ·rw [if_pos h2,if_pos (by omega)]
  ·rw [if_neg h2,if_neg (by omega)]
theorem ZF (hk:k < l.length) (hc:gi l k=c) (j:Nat):(if j=c then FK l k c+1 else FK l k j)=FK l (k+1) j:=by
 simp only [FK];rw [Jm l k hk,hc];by_cases h:j=c
 ·subst h;rw [if_pos rfl,if_pos rfl];omega
 ·rw [if_neg h,if_neg (by omega),Int.add_zero]
theorem fE (l:I_) (k j:Nat):0<=Iy l k j/\Iy l k j<=l.length:=by
 rw [Iy];split
 ·omega
 ·have:=Fz (l.take k) (j - 1);have:=List.length_take_le' k l;omega
theorem TV (l:I_) (k j:Nat):0<=G7 l k j/\G7 l k j<=l.length:=by
 rw [G7];split
 ·exact Ll l j
 ·exact Fz l _
theorem fD (l:I_) (k j:Nat):0<=FK l k j/\FK l k j<=2 * l.length:=by
 have:=Ll l j;have:=Fz (l.take k) j;have:=List.length_take_le' k l;rw [FK];omega
theorem qx (n:Nat):(List.replicate n (Value.int .i64 0)).toArray=J .i64 (tab n fun _=>0):=by rw [<- kT,J,vs,List.map_replicate]
def EX (l:I_) (index k r:Nat):Int:=if r < k then rowsOf l index r else 0
theorem fK (v:Value) (l:I_) (index:Nat) (w0 w:World) (rs:Rws) (ss:List Sl) (hm:Own w0 w rs ss) (hv:∀ W,Own w0 W rs ss->In .u8 W v l) (hb:Bytes l) (h1:1<=index) (h2:index<=l.length) (hn:l.length<=1000000):Calls prog 71 #[v,.int .i64 index] w (fun e w'=>∃ g,e=.returned (.slice (some ⟨g,0,none⟩) (l.length+1) (l.length+1))/\Own w0 w' ((g,J .i64 (tab (l.length+1) (rowsOf l index)))::rs) ss):=by
 obtain ⟨ad,cp,rfl,_⟩:=hv w hm
 have HC:Hid (∀ W,Own w0 W rs ss->∀ k,k < l.length->∃ A,ad=some A/\W.cell? (A.add k)=some (.int .u8 (gi l k))):=h_ fun W h k hk=>by
  exact xdy
 obtain ⟨i3,hE⟩:=Md;have HE:=h_ hE;obtain ⟨i4,hF⟩:=nR;have HF:=h_ hF;obtain ⟨i5,hF1⟩:=wM;have HF1:=h_ hF1;have HB:=h_ hb;have wl:IntKind.i64.wrap ((l.length:Int)+1)=((l.length+1:Nat):Int):=by rw [IntWalk.i64_in _ (by omega)];push_cast;rfl
 clear hE hF hF1 hb hv;go_enter func71,ntmps71
 go_wp2_with (first
 |(with_reducible refine gAl (t:=184) ?_;(refine Ad rfl (Dl hm rfl A1D ?_);clear hm;intro w g hm)))
 have hm0:Own w0 w ((g,J .i64 (tab 257 (Iy l 0)))::rs) ss:=by
  rw [Gi (g:=fun _=>0)]
  ·exact hm
  ·intro i _;rw [Iy];split<;>rfl
 clear hm;have hm:=hm0;clear hm0
 go_loopw [16] (fun u wr=>∃ k:Nat,k<=l.length/\u=.int .i64 k/\Own w0 wr ((g,J .i64 (tab 257 (Iy l k)))::rs) ss) (fun u _=>l.length - (intOf u).toNat)
 case atStart=>exact ⟨0,by omega,rfl,hm⟩
 case round =>
  clear hm;obtain ⟨k,hk,rfl,hm⟩:=hrel;by_cases hlt:k < l.length
  ·have hs:=HB.out (gi l k) (by rw [BZ l k hlt];exact List.getElem_mem _);obtain ⟨A,rfl,hA0⟩:=HC.out _ hm.dropRow k hlt;obtain ⟨c,hc⟩:=Int.eq_ofNat_of_zero_le hs.1;have hcell:wr.cell? (A.add k)=some (.int .u8 c):=by rw [<- hc];exact hA0
   have hc1:c+1 < 257:=by omega
   have w1:IntKind.i64.wrap (c:Int)=c:=i_6;have w2:IntKind.i64.wrap ((c:Int)+1)=((c+1:Nat):Int):=by rw [IntWalk.i64_in _ (by omega)];push_cast;rfl
   have hbd:=fE l k (c+1);have w3:IntKind.i64.wrap (Iy l k (c+1)+1)=Iy l k (c+1)+1:=i_6;have HG:=h_ (PU .i64 (Iy l k) hc1);have HP:=h_ (kH .i64 (n:=257) (Iy l k) (Iy l (k+1)) (c+1) (Iy l k (c+1)+1) (fun j _=>wY hlt hc j));have HSZ:Hid (c+1 < (J .i64 (tab 257 (Iy l k))).size):=h_ (by rw [Df,Lm];exact hc1);clear hA0 hs hc hbd;generalize Iy l k (c+1)=y at *;generalize hT1:tab 257 (Iy l k)=T1 at *;generalize hT2:tab 257 (Iy l (k+1))=T2 at *
   go_wp2_with (first
    |(with_reducible refine gIa (t:=22) ?_;(refine A8 rfl (Am rfl HE.out rfl rfl rfl hlt) ?_))
    |(with_reducible refine gLd (t:=5) ?_;(refine A8 rfl (AU rfl rfl FV hcell) ?_))
    |(with_reducible refine gLd (t:=3) ?_;(refine A8 rfl (ld 0 hm rfl rfl rfl (ot rfl) HG.out) ?_))
    |(with_reducible refine gSt (t:=3) ?_;(refine Ad rfl (AZ 0 hm rfl rfl (Ac rfl) rfl (ot rfl) HSZ.out rfl rfl HP.out ?_);clear hm;intro w hm;try simp only [puts,s2,List.set] at hm)))
   exact xcm
  ·obtain rfl:l.length=k:=by omega
   go_wp2
   have hm0:Own w0 wr ((g,J .i64 (tab 257 (G7 l 0)))::rs) ss:=by
    rw [Gi (g:=Iy l l.length)]
    ·exact hm
    ·intro i _;rw [Iy,G7,List.take_length];by_cases h:i=0
     ·subst h;rw [if_pos (Nat.le_refl _),if_pos rfl,uY HB.out]
     ·rw [if_neg h,if_neg (by omega)]
   clear hm;have hm:=hm0;clear hm0
   go_loopw [28] (fun u wr=>∃ k:Nat,k<=256/\u=.int .i64 k/\Own w0 wr ((g,J .i64 (tab 257 (G7 l k)))::rs) ss) (fun u _=>256 - (intOf u).toNat)
   case atStart=>exact ⟨0,by omega,rfl,hm⟩
   case round =>
    clear hm;obtain ⟨k,hk,rfl,hm⟩:=hrel;by_cases hlt:k < 256
    ·have hc0:k < 257:=by omega
     have hc1:k+1 < 257:=by omega
     have b1:=TV l k k;have b2:=TV l k (k+1);have w2:IntKind.i64.wrap ((k:Int)+1)=((k+1:Nat):Int):=by rw [IntWalk.i64_in _ (by omega)];push_cast;rfl
     have w3:IntKind.i64.wrap (G7 l k (k+1)+G7 l k k)=G7 l k (k+1)+G7 l k k:=i_6;have HG0:=h_ (PU .i64 (G7 l k) hc0);have HG1:=h_ (PU .i64 (G7 l k) hc1);have HP:=h_ (kH .i64 (n:=257) (G7 l k) (G7 l (k+1)) (k+1) (G7 l k (k+1)+G7 l k k) (fun j _=>wX k j));have HSZ:Hid (k+1 < (J .i64 (tab 257 (G7 l k))).size):=h_ (by rw [Df,Lm];exact hc1);clear b1 b2;generalize G7 l k (k+1)=y at *;generalize G7 l k k=z at *;generalize hT1:tab 257 (G7 l k)=T1 at *;generalize hT2:tab 257 (G7 l (k+1))=T2 at *
     go_upto_region 10 with fail
     refine NP hm 9 (.rds [(0,false),(1,false),(2,false),(3,true),(4,false),(5,false),(6,true),(7,false),(8,false)] (.brk 9 10 .done)) rfl (by kernel_rfl) rfl (by kernel_rfl) (fun _ _ d _ _ h=>by cases d<;>exact h) ?_;clear hm;intro w hm;simp only [KT.rds]
     (refine K_p rfl rfl (fun W=>by go_simp;rfl) ?_)
     try simp only [Act.put,s3]
     (refine K_p rfl rfl (fun W=>by go_simp;show Value.int .i64 _=Value.int .i64 ((k+1:Nat):Int);rfl) ?_)
     try simp only [Act.put,s3]
     (refine K_p rfl rfl (fun W=>by go_simp;rw [if_pos (by omega)]) ?_)
     try simp only [Act.put,s3]
     (refine K_m rfl rfl (fun W hm=>ld 0 hm rfl rfl rfl (ot rfl) HG1.out) ?_)
     try simp only [Act.put,s3]
     (refine K_p rfl rfl (fun W=>by go_simp;rfl) ?_)
     try simp only [Act.put,s3]
     (refine K_p rfl rfl (fun W=>by go_simp;rw [if_pos (by omega)]) ?_)
     try simp only [Act.put,s3]
     (refine K_m rfl rfl (fun W hm=>ld 0 hm rfl rfl rfl (ot rfl) HG0.out) ?_)
     try simp only [Act.put,s3]
     (refine K_p rfl rfl (fun W=>by go_simp;(first|(rw [IntWalk.i64_in _ (by omega)];done)|(rw [IntWalk.i64_in _ (by omega)];rfl)|rfl)) ?_)
     try simp only [Act.put,s3]
     (refine K_p rfl rfl (fun W=>by go_simp;rw [if_pos (by omega)]) ?_)
     try simp only [Act.put,s3]
     (refine Em rfl rfl (AZ 0 hm rfl rfl (Ac rfl) rfl (ot rfl) HSZ.out rfl rfl HP.out ?_))
     clear hm;intro w hm
     try simp only [puts,s2,List.set,List.eraseIdx,s3] at hm
     refine ⟨fun W=>Own _ W _ _,hm,?_⟩
     try simp only [Act.put,s3]
     refine Ba ?_;go_simp;go_wp2;exact xcm
    ·obtain rfl:k=256:=by omega
     go_wp2_with (first
      |(with_reducible refine gMs ?_;(refine Me (l.length+1) hm rfl rfl HF.out rfl rfl (by omega) (by omega) ?_;clear hm;intro w g9 hm)))
     have hm0:Own w0 w ((g9,J .i64 (tab (l.length+1) (EX l index 0)))::(g,J .i64 (tab 257 (FK l (Iw index 0))))::rs) ss:=by
      rw [qx] at hm;rw [Gi (f:=EX l index 0) (g:=fun _=>0) (fun i _=>by rw [EX,if_neg (by omega)]),Gi (f:=FK l (Iw index 0)) (g:=G7 l 256) (fun i hi=>by rw [FK,G7,if_pos (by omega),show Iw index 0=0 by rw [Iw,if_neg (by omega)]];simp [eqn])];exact hm
     clear hm;have hm:=hm0;clear hm0
     go_loopw [47] (fun u wr=>∃ k:Nat,k<=l.length+1/\u=.int .i64 k/\Own w0 wr ((g9,J .i64 (tab (l.length+1) (EX l index k)))::(g,J .i64 (tab 257 (FK l (Iw index k))))::rs) ss) (fun u _=>l.length+1 - (intOf u).toNat)
     case atStart=>exact ⟨0,by omega,rfl,hm⟩
     case round =>
      clear hm;obtain ⟨k,hk,rfl,hm⟩:=hrel;by_cases hlt:k < l.length+1
      ·have q0:decide ((k:Int) < ((l.length+1:Nat):Int))=true:=d_t;have CP:=h_ (fun w=>Vf ad cp l.length index k w h2 (by omega) (by omega));by_cases hi:k=index
       ·rw [if_pos hi] at CP
        have HX:Hid (∀ W,Own w0 W ((g9,J .i64 (tab (l.length+1) (EX l index k)))::(g,J .i64 (tab 257 (FK l (Iw index k))))::rs) ss->Own w0 W ((g9,J .i64 (tab (l.length+1) (EX l index (k+1))))::(g,J .i64 (tab 257 (FK l (Iw index (k+1)))))::rs) ss):=h_ fun W h=>by
         rw [show Iw index (k+1)=Iw index k by simp only [Iw];rw [if_pos (by omega),if_neg (by omega)];omega,Gi (f:=EX l index (k+1)) (g:=EX l index k)]
         ·exact h
         ·intro r _;simp only [EX,rowsOf];by_cases h1:r < k
          ·rw [if_pos h1,if_pos (by omega)]
          ·rw [if_neg h1];split
           ·rw [if_pos (by omega)]
           ·rfl
        clear hi;generalize tab (l.length+1) (EX l index k)=T1 at *;generalize tab 257 (FK l (Iw index k))=T2 at *
        go_wp2_with (first
         |(go_at_call 72;refine (CP.out _).mono ?_;rintro e w1 ⟨rfl,rfl⟩))
        go_roundw
        case rel=>exact ⟨k+1,by omega,by go_num,HX.out _ hm⟩
        case measure=>simp [intOf];omega
       ·rw [if_neg hi] at CP;obtain ⟨p,hp⟩:∃ p,p=Iw index k:=⟨_,rfl⟩;have hp1:p=if index < k then k - 1 else k:=hp
        have hpl:p < l.length:=by split at hp1<;>omega
        have hp2:Iw index (k+1)=p+1:=by rw [Iw];split at hp1<;>split<;>omega
        have hs:=HB.out (gi l p) (by rw [BZ l p hpl];exact List.getElem_mem _);obtain ⟨A,rfl,hA0⟩:=HC.out _ hm.dropRow.dropRow p hpl
        have hA:∀ W,Own w0 W rs ss->W.cell? (A.add p)=some (.int .u8 (gi l p)):=fun W h=>by
         exact xhd
        obtain ⟨c,hc⟩:=Int.eq_ofNat_of_zero_le hs.1;rw [hc] at hA;have hc1:c < 257:=by omega
        have w1:IntKind.i64.wrap (c:Int)=c:=i_6;have hbd:=fD l p c;have w3:IntKind.i64.wrap (FK l p c+1)=FK l p c+1:=i_6;have HP:=h_ (kH .i64 (n:=257) (FK l p) (FK l (p+1)) c (FK l p c+1) (fun j _=>ZF hpl hc j));have HG:=h_ (PU .i64 (FK l p) hc1);have HG2:Hid ((J .i64 (tab 257 (FK l (p+1))))[c]?=some (.int .i64 (FK l p c+1))):=h_ (by rw [PU .i64 _ hc1,<- ZF hpl hc,if_pos rfl]);have HSZ:Hid (c < (J .i64 (tab 257 (FK l p))).size):=h_ (by rw [Df,Lm];exact hc1)
        have HO:Hid ((J .i64 (tab (l.length+1) (EX l index k))).setIfInBounds k (.int .i64 (FK l p c+1))=J .i64 (tab (l.length+1) (EX l index (k+1)))):=h_ (kH .i64 _ _ k _ (fun j hj=>by
         simp only [EX];by_cases e:j=k
         ·subst e;rw [if_pos rfl,if_pos (by omega),rowsOf,if_neg hi,aft,<- hp,hc,FK,Int.toNat_natCast];omega
         ·rw [if_neg e];by_cases h1:j < k
          ·rw [if_pos h1,if_pos (by omega)]
          ·rw [if_neg h1,if_neg (by omega)]))
        have HO0:Hid ((J .i64 (tab (l.length+1) (EX l index k))).setIfInBounds (0+k) (.int .i64 (FK l p c+1))=J .i64 (tab (l.length+1) (EX l index (k+1)))):=h_ (by rw [Nat.zero_add];exact HO.out);have HOZ:Hid (k < (J .i64 (tab (l.length+1) (EX l index k))).size):=h_ (by rw [Df,Lm];exact hlt);have HOZ0:Hid (0+k < (J .i64 (tab (l.length+1) (EX l index k))).size):=h_ (by rw [Df,Lm];omega);rw [<- hp] at CP hm;clear hA0 hs hc hbd hp1 hp hi;generalize FK l p c=z at *;generalize hT1:tab 257 (FK l p)=T1 at *;generalize hT2:tab 257 (FK l (p+1))=T2 at *;generalize tab (l.length+1) (EX l index k)=U1 at *;generalize hU2:tab (l.length+1) (EX l index (k+1))=U2 at *
        go_wp2_with (first
         |(go_at_call 72;refine (CP.out _).mono ?_;rintro e w1 ⟨rfl,rfl⟩)
         |(with_reducible refine gIa (t:=22) ?_;(refine A8 rfl (Am rfl HE.out rfl rfl rfl hpl) ?_))
         |(with_reducible refine gIa (t:=124) ?_;(refine A8 rfl (ix1 (k:=k) rfl HF1.out rfl rfl rfl hlt) ?_))
         |(with_reducible refine gLd (t:=5) ?_;(refine A8 rfl (AU rfl rfl FV (hA _ hm.dropRow.dropRow)) ?_))
         |(with_reducible refine gLd (t:=3) ?_;(refine A8 rfl (ld 1 hm rfl rfl rfl (ot rfl) (by first|exact HG.out|exact HG2.out)) ?_))
         |(with_reducible refine gSt (t:=3) ?_;(first|(refine Ad rfl (AZ 1 hm rfl rfl (Ac rfl) rfl (ot rfl) HSZ.out rfl rfl HP.out ?_);clear hm;intro w hm;try simp only [puts,s2,List.set] at hm)|(refine Ad rfl (AZ 0 hm rfl rfl (Ac rfl) rfl (ot rfl) (by first|exact HOZ.out|exact HOZ0.out) rfl rfl (by first|exact HO.out|exact HO0.out) ?_);clear hm;intro w hm;try simp only [puts,s2,List.set] at hm))))
        go_roundw
        case rel=>exact ⟨k+1,by omega,by go_num,by rw [hU2,hp2,hT2];exact hm⟩
        case measure=>simp [intOf];omega
      ·obtain rfl:k=l.length+1:=by omega
       have q0:decide (((l.length+1:Nat):Int) < ((l.length+1:Nat):Int))=false:=d_f;rw [Gi (f:=EX l index (l.length+1)) (g:=rowsOf l index) (fun i hi=>by rw [EX,if_pos hi])] at hm;generalize hU:tab (l.length+1) (rowsOf l index)=U at *;generalize tab 257 (FK l (Iw index (l.length+1)))=T at *;go_wp2;go_ret;exact ⟨g9,rfl,by rw [hU];exact hm.sub (List.Sublist.cons_cons _ (List.sublist_cons_self _ _)) (List.Sublist.refl _)⟩
variable {acc l:I_} {index n r:Nat}
def bwk (l:I_) (index:Nat):Nat->Nat->I_->Option I_
|0,r,acc=>if r=index then some acc else none
|k+1,r,acc=>if r=index then none else bwk l index k (aft l (Iw index r)).toNat (gi l (Iw index r)::acc)
theorem A0k (l:I_) (c:Nat):eqn l c+lsn l c<=l.length:=by
 have:=Ll l (c+1);rw [YO] at this;omega
theorem Zq (l:I_) (k:Nat) (h:k < l.length) (c:Nat) (hc:gi l k=c):eqn (l.take k) c+1<=eqn l c:=by
 have h1:=Jm l k h c;rw [if_pos hc] at h1
 have h2:eqn (l.take (k+1)) c<=eqn l c:=by
  have:=(List.take_sublist (k+1) l).countP_le (p:=fun x:Int=>decide (x=(c:Int)));simp only [eqn];omega
 omega
theorem oI (hb:Bytes l) (k:Nat) (h:k < l.length):1<=aft l k/\aft l k<=l.length:=by
 have h2:=Fz (l.take k) (gi l k).toNat
 have h1:=Ll l (gi l k).toNat
 have hs:=hb (gi l k) (by rw [BZ l k h];exact List.getElem_mem _);have h3:=Zq l k h (gi l k).toNat (by omega);have h4:=A0k l (gi l k).toNat
 rw [aft];omega
theorem A0z (h1:1<=index) (h2:index<=n) (hr:r<=n) (hne:r ≠ index):Iw index r < n:=by
 rw [Iw];split<;>omega
def txt (n:Nat) (acc:I_):I_:=List.replicate (n - acc.length) 0++acc
theorem zi (x:Int) (h:acc.length < n):(txt n acc).set (n - acc.length - 1) x=txt n (x::acc):=by
 rw [txt,txt,List.length_cons];obtain ⟨m,hm⟩:∃ m,n - acc.length=m+1:=⟨n - acc.length - 1,by omega⟩;rw [hm,show n - (acc.length+1)=m by omega,show m+1 - 1=m by omega,List.replicate_succ',l_a,List.set_append_right _ _ (by simp)];simp
theorem A0c (h:acc.length<=n):(txt n acc).length=n:=by simp [txt];omega
def aB (w0:World) (o:Option I_) (n:Nat) (rs:Rws) (ss:List Sl) (x:Ending) (w':World):Prop :=
 match o with
|none=>x=.returned (.tuple #[.slice none 0 0,.int .i64 170])/\Own w0 w' rs ss
|some t=>∃ g,t.length=n/\x=.returned (.tuple #[.slice (some ⟨g,0,none⟩) n n,.int .i64 0])/\Own w0 w' ((g,J .u8 t)::rs) ss
theorem xJ (v:Value) (l:I_) (index:Nat) (w0 w:World) (rs:Rws) (ss:List Sl) (hm:Own w0 w rs ss) (hv:∀ W,Own w0 W rs ss->In .u8 W v l) (hb:Bytes l) (h1:1<=index) (h2:index<=l.length) (hn:l.length<=1000000):Calls prog 27 #[v,.int .i64 index] w (aB w0 (bwk l index l.length 0 []) l.length rs ss):=by
 have CB:Hid (∀ {W},Own w0 W rs ss->Calls prog 71 #[v,.int .i64 index] W (fun e w'=>∃ g,e=.returned (.slice (some ⟨g,0,none⟩) (l.length+1) (l.length+1))/\Own w0 w' ((g,J .i64 (tab (l.length+1) (rowsOf l index)))::rs) ss)):=h_ fun h=>fK v l index w0 _ rs ss h hv hb h1 h2 hn;obtain ⟨ad,cp,rfl,_⟩:=hv w hm
 have HC:Hid (∀ W,Own w0 W rs ss->∀ k,k < l.length->∃ A,ad=some A/\W.cell? (A.add k)=some (.int .u8 (gi l k))):=h_ fun W h k hk=>by
  exact xdy
 obtain ⟨i3,hE⟩:=Md;have HE:=h_ hE;obtain ⟨i4,hF⟩:=nP;have HF:=h_ hF;obtain ⟨i5,hF1⟩:=wM;have HF1:=h_ hF1;have HB:=h_ hb;have q1:decide ((index:Int) < 0)=false:=d_f;have q2:decide ((l.length:Int) < index)=false:=d_f;have q3:decide (l.length < index)=false:=d_f;have q4:((index:Int) == 0)=false:=by simp;omega
 have wl:IntKind.i64.wrap ((l.length:Int) - 1)=(l.length:Int) - 1:=i_6;obtain ⟨o,ho⟩:∃ o,o=bwk l index l.length 0 []:=⟨_,rfl⟩;rw [<- ho];have HO:=h_ ho;clear hE hF hF1 hb hv ho;go_enter func27,ntmps27
 go_wp2_with (first
 |(go_at_call 71;have _t:=hm;refine (CB.out hm).mono ?_;clear _t;clear hm;rintro e w ⟨g7,rfl,hm⟩)
 |(with_reducible refine gMs ?_;(refine Me l.length hm rfl rfl HE.out rfl rfl (by omega) (by omega) ?_;clear hm;intro w g8 hm)))
 have hm0:Own w0 w ((g8,J .u8 (txt l.length []))::(g7,J .i64 (tab (l.length+1) (rowsOf l index)))::rs) ss:=by
  rw [A17] at hm;rw [txt];simpa [J,B] using hm
 clear hm;have hm:=hm0;clear hm0
 go_loopw [9,10] (fun z u wr=>∃ (k r:Nat) (acc:I_),k+acc.length=l.length/\r<=l.length/\u=.int .i64 ((k:Int) - 1)/\z=.int .i64 r/\o=bwk l index k r acc/\Own w0 wr ((g8,J .u8 (txt l.length acc))::(g7,J .i64 (tab (l.length+1) (rowsOf l index)))::rs) ss) (fun _ u _=>(intOf u+1).toNat)
 case atStart=>exact ⟨l.length,0,[],by simp,by omega,rfl,rfl,HO.out,hm⟩
 case round =>
  clear hm;obtain ⟨k,r,acc,hk,hr,rfl,rfl,ho,hm⟩:=hrel;rcases k with _|k
  ·have q5:decide ((0:Int)<=((0:Nat):Int) - 1)=false:=by decide
   rw [bwk] at ho;by_cases he:r=index
   ·subst he;rw [if_pos rfl] at ho;subst ho;have hla:acc.length=l.length:=by omega
    have HT:Hid (txt l.length acc=acc):=h_ (by rw [txt,hla];simp);rw [HT.out] at hm;have HLA:=h_ hla;clear hla;go_wp2
    go_ret2
    exact ⟨g8,HLA.out,rfl,hm.sub (List.Sublist.cons_cons _ (List.sublist_cons_self _ _)) (List.Sublist.refl _)⟩
   ·have q6:((r:Int) == index)=false:=by simp;omega
    have q7:((r:Int) != index)=true:=by simp;omega
    rw [if_neg he] at ho;subst ho;clear he;go_wp2
    go_ret2
    exact ⟨rfl,hm.dropRow.dropRow⟩
  ·have q5:decide ((0:Int)<=((k+1:Nat):Int) - 1)=true:=d_t;have wk:IntKind.i64.wrap (((k+1:Nat):Int) - 1 - 1)=(k:Int) - 1:=by rw [IntWalk.i64_in _ (by omega)];omega
   have ek:((k+1:Nat):Int) - 1=(k:Int):=by omega
   rw [ek] at q5 wk ⊢;rw [bwk] at ho;have CP:=h_ (fun w=>Vf ad cp l.length index r w h2 hr (by omega));by_cases he:r=index
   ·rw [if_pos he] at ho CP;subst ho;clear he
    go_wp2_with (first
     |(go_at_call 72;refine (CP.out _).mono ?_;rintro e w1 ⟨rfl,rfl⟩))
    go_ret2
    exact ⟨rfl,hm.dropRow.dropRow⟩
   ·rw [if_neg he] at ho CP;obtain ⟨p,hp⟩:∃ p,p=Iw index r:=⟨_,rfl⟩;have hpl:p < l.length:=by rw [hp];exact A0z h1 h2 hr he
    have hab:=oI HB.out p hpl;rw [<- hp] at ho CP;obtain ⟨A,rfl,hA0⟩:=HC.out _ hm.dropRow.dropRow p hpl
    have hA:∀ W,Own w0 W rs ss->W.cell? (A.add p)=some (.int .u8 (gi l p)):=fun W h=>by
     exact xhd
    have hrl:r < l.length+1:=by omega
    have hkl:k < l.length:=by omega
    have HG:Hid ((J .i64 (tab (l.length+1) (rowsOf l index)))[r]?=some (.int .i64 ((aft l p).toNat:Nat))):=h_ (by rw [PU .i64 _ hrl,rowsOf,if_neg he,<- hp,Int.toNat_of_nonneg (by omega)]);have HG0:Hid ((J .i64 (tab (l.length+1) (rowsOf l index)))[0+r]?=some (.int .i64 ((aft l p).toNat:Nat))):=h_ (by rw [Nat.zero_add];exact HG.out);have HP:Hid ((J .u8 (txt l.length acc)).setIfInBounds k (.int .u8 (gi l p))=J .u8 (txt l.length (gi l p::acc))):=h_ (by rw [Y0,<- zi _ (by omega),show l.length - acc.length - 1=k by omega]);have HP0:Hid ((J .u8 (txt l.length acc)).setIfInBounds (0+k) (.int .u8 (gi l p))=J .u8 (txt l.length (gi l p::acc))):=h_ (by rw [Nat.zero_add];exact HP.out);have HZ:Hid (k < (J .u8 (txt l.length acc)).size):=h_ (by rw [Df,A0c (by omega)];exact hkl);have HZ0:Hid (0+k < (J .u8 (txt l.length acc)).size):=h_ (by rw [Nat.zero_add];exact HZ.out)
    have hra:(aft l p).toNat<=l.length:=by omega
    have HN:=h_ ho;clear hA0 hab hp he ho;generalize (aft l p).toNat=r2 at *;generalize gi l p=x at *;generalize tab (l.length+1) (rowsOf l index)=U at *
    go_wp2_with (first
     |(go_at_call 72;refine (CP.out _).mono ?_;rintro e w1 ⟨rfl,rfl⟩)
     |(with_reducible refine gIa (t:=22) ?_;(first|(refine A8 rfl (Am rfl HE.out rfl rfl rfl hpl) ?_)|(refine A8 rfl (ix1 (k:=k) rfl HF.out rfl rfl rfl hkl) ?_)))
     |(with_reducible refine gIa (t:=124) ?_;(refine A8 rfl (ix1 (k:=r) rfl HF1.out rfl rfl rfl hrl) ?_))
     |(with_reducible refine gLd (t:=5) ?_;(refine A8 rfl (AU rfl rfl FV (hA _ hm.dropRow.dropRow)) ?_))
     |(with_reducible refine gLd (t:=3) ?_;(refine A8 rfl (ld 1 hm rfl rfl rfl (ot rfl) (by first|exact HG.out|exact HG0.out)) ?_))
     |(with_reducible refine gSt (t:=5) ?_;(refine Ad rfl (AZ 0 hm rfl rfl (Ac rfl) rfl (ot rfl) (by first|exact HZ.out|exact HZ0.out) rfl rfl (by first|exact HP.out|exact HP0.out) ?_);clear hm;intro w hm;try simp only [puts,s2,List.set] at hm)))
    go_roundw
    case rel=>exact ⟨k,r2,x::acc,by rw [List.length_cons];omega,hra,rfl,rfl,HN.out,hm⟩
    case measure=>simp [intOf]
structure A68 (live:Int) (a n b m d:Nat):Prop where
 n1:1<=n
 n2:n<=65536
 d1:1<=d
 d2:d<=65536
 ap:a+n<=b
 fit:(b:Int)+m<=live
 big:1024 * (n / d)<=m
 lim:live<=1048576
theorem lD (ga:Nat) (dv:Value) (live peak:Int) (a n b m d:Nat) (h:A68 live a n b m d) (w0:World) (hr:AA w0 ga (AR dv live peak)):Calls prog 118 #[.pointer (some ⟨ga,0,none⟩),.agg (SP a n),.agg (SP b m),.int .i64 d] w0 (RB w0 (.bool true)):=by
 obtain ⟨n1,n2,d1,d2,ap,fit,big,lim⟩:=h;have CH:Hid (∀ W (x y:Nat),(x=a/\y=n\/x=b/\y=m)->Below w0.heap.size w0 W->Calls prog 64 #[.pointer (some ⟨ga,0,none⟩),.agg (SP x y)] W fun e w'=>(e=.returned (.bool true))/\Below W.heap.size W w'):=h_ fun W x y hxy h=>vZ ga dv live peak x y W (hr.keep W h) (by omega) (by omega) (by omega) lim;have CA:=h_ (fun w=>lN a n b m n1 ap (by omega) w);obtain ⟨q,hq⟩:∃ q:Nat,q=n / d:=⟨_,rfl⟩;have CS:=h_ (fun w=>sF n d q hq n2 d1 d2 w);rw [<- hq] at big;have w1:wi n 1 65536=true:=Eu (by omega) (by omega);have w2:wi d 1 65536=true:=Eu (by omega) (by omega);have q1:decide (((1024 * q:Nat):Int)<=m)=true:=d_t;have q3:decide (1024 * (q:Int)<=m)=true:=d_t;have q2:decide (1024 * q<=m)=true:=decide_eq_true big;clear hr n1 n2 d1 d2 ap fit lim hq big;go_enter func118,ntmps118;have hm:=Own.nil w0
 go_upto_region 3 with (first
  |(go_at_call 64;refine cB (CH.out _ _ _ (by first|exact .inl ⟨rfl,rfl⟩|exact .inr ⟨rfl,rfl⟩) hm.below) hm ?_;clear hm;intro w1 hm)
  |(go_at_call 119;refine (QK _ _ _ _).mono ?_;rintro e w1 ⟨rfl,rfl⟩)
  |(with_reducible refine wb hm ?_;clear hm;intro w g hm)
  |(with_reducible (first|refine wl 3 0 hm ?_ (hv:=(by with_unfolding_all (first|exact (SP0 _ _)|exact (SP1 _ _))))|refine wl 3 1 hm ?_ (hv:=(by with_unfolding_all (first|exact (SP0 _ _)|exact (SP1 _ _))))))
  |(with_reducible (first|refine wla 50 0 hm ?_ (ht:=c_z (Eo _ _))|refine wla 50 1 hm ?_ (ht:=c_z (Eo _ _)))))
 refine rO hm 13 (.rds [(0,true),(1,true)] (.one 2 (.rds [(3,false),(4,false),(5,true),(6,false),(7,true),(8,false)] (.one 9 (.rds [(10,false),(11,false),(12,false)] .done))))) ?_;clear hm;intro w hm;simp only [KT.rds];refine km (fun W hm=>lda 1 hm rfl rfl rfl (Eo _ _)) ?_;refine km (fun W hm=>lda 0 hm rfl rfl rfl (Eo _ _)) ?_;refine DJ rfl rfl (fun K hK=>?_);go_simp;refine (CA.out _).mono ?_;rintro e w1 ⟨rfl,hb⟩;replace hm:=hm.call hb;clear hb;refine hK _ _ ⟨fun W=>Own _ W _ _,fun _ h=>h,hm,?_⟩;clear hK K
 try simp only [Act.put,s3]
 refine kq ?_
 (first|refine kq ?_|(refine Bz rfl rfl ?_))
 try simp only [Act.put,s3]
 (first|(refine K_m rfl rfl (fun W hm=>ld 0 hm rfl rfl rfl (ot rfl) (SP1 _ _)) ?_)|(refine D6 rfl rfl ?_))
 try simp only [Act.put,s3]
 (first|refine kq ?_|(refine Bz rfl rfl ?_))
 try simp only [Act.put,s3]
 (first|(refine K_m rfl rfl (fun W hm=>ld 1 hm rfl rfl rfl (ot rfl) (SP1 _ _)) ?_)|(refine D6 rfl rfl ?_))
 try simp only [Act.put,s3]
 (first|refine kq ?_|(refine Bz rfl rfl ?_))
 try simp only [Act.put,s3]
 refine DJ rfl rfl (fun K hK=>?_);go_simp;refine (CS.out _).mono ?_;rintro e w1 ⟨rfl,rfl⟩;refine hK _ _ ⟨fun W=>Own _ W _ _,fun _ h=>h,hm,?_⟩;clear hK K
 try simp only [Act.put,s3]
 (first|refine kq ?_|(refine Bz rfl rfl ?_))
 exact xhr
theorem A4Y (w:World):(zeroValue 115).run prog w=.ok (.agg (J .i64 (tab 256 fun _=>0))) w:=by kernel_rfl
theorem A4Q (f:Nat->Int):Aq prog 115 (J .i64 (tab 256 f)).size:=by rw [Df,Lm];exact ag (by decide)
theorem sz115 (f g:Nat->Int):(J .i64 (tab 256 f)).size=(J .i64 (tab 256 g)).size:=by rw [Df,Df,Lm,Lm]
theorem Lies.zu {k:IntKind} {X:Rws} {v:Value} {l:I_} (h:Lies 1 X v l.length (vs k l)) {w0 w:World} {A:Rws} {ss:List Sl} (hm:Own w0 w (A++X) ss):In k w v l:=by
 have hf:=h.from (A:=A) (rs:=[]) (by rw [List.append_nil];exact hm);obtain ⟨h1,⟨rfl,h2,h3⟩|⟨ad,c,rfl,hc⟩⟩:=hf
 ·have hl0:l.length=0:=h2;exact ⟨none,0,by rw [hl0],fun i hi=>by omega⟩
 ·exact ⟨some ad,c,rfl,fun i hi=>⟨ad,rfl,hc i _ (Fg k l i hi)⟩⟩
theorem A4F (l:I_) (c:Nat):lsn l c+eqn l c=lsn l (c+1):=by rw [YO];omega
theorem A5K (ga gd a n:Nat) (l:I_) (live peak:Int) (w0:World) (hr:AA w0 ga (AR (.slice (some ⟨gd,0,none⟩) l.length l.length) live peak)) (hd:AA w0 gd (B l)) (hb:Bytes l) (h1:(a:Int)+n<=live) (h2:live<=l.length) (h3:l.length<=1048576) (h4:0 < n):Calls prog 66 #[.pointer (some ⟨ga,0,none⟩),.agg (SP a n)] w0 (RB w0 (.agg (J .i64 (tab 256 (lsn (seg l a (a+n))))))):=by
 have CL:Hid (∀ W,Below w0.heap.size w0 W->Calls prog 115 #[.pointer (some ⟨ga,0,none⟩),.agg (SP a n)] W (OwnB W (seg l a (a+n)))):=h_ fun W h=>A6O ga gd a n l live peak W (hr.keep W h) (hd.keep W h) h1 h2 h3 h4;have hsl:(seg l a (a+n)).length=n:=by simp [seg];omega
 have hsb:Bytes (seg l a (a+n)):=fun x hx=>hb x (List.mem_of_mem_take (List.mem_of_mem_drop hx));clear hr hd hb;generalize seg l a (a+n)=c at *;have hn:c.length<=1048576:=by omega
 clear h1 h2 h3 h4 hsl;obtain ⟨i3,hE⟩:=nP;have HE:=h_ hE;obtain ⟨i4,hE1⟩:=Md;have HE1:=h_ hE1;clear hE1;have HB:=h_ hsb;clear hE hsb;go_enter func66,ntmps66;have hm:=Own.nil w0
 go_wp2_with (first
 |(go_at_call 115;have _t:=hm;refine (CL.out _ hm.below).mono ?_;clear _t;rintro e w1 h1;obtain ⟨X,v,rfl,hX,hm2⟩:=hm.ofB h1;clear hm h1;have hm:=hm2;clear hm2;obtain ⟨ad,cp,rfl⟩:=hX.shape;have HX:=h_ hX;clear hX)
 |(with_reducible refine wb hm ?_;clear hm;intro w g6 hm)
 |(with_reducible refine gAl ?_;(with_reducible refine wa _ hm A4Y ?_;clear hm;first|(have _t:=g5;intro w g hm)|intro w g5 hm))
 |(with_reducible refine wla 50 2 hm ?_ (ht:=c_z (Eo _ _))))
 have hm0:=hm.perm List.perm_append_comm;simp only [s2] at hm0;clear hm;have hm:=hm0;clear hm0;have HI:Hid (∀ W (r1 r2 r3:Nat × A_),Own w0 W (r1::r2::r3::X) []->In .u8 W (.slice ad c.length cp) c):=h_ fun W r1 r2 r3 h=>HX.out.zu (A:=[r1,r2,r3]) h;have h00:∀ i,i < 256->(fun _:Nat=>(0:Int)) i=eqn (c.take 0) i:=fun i _=>by simp [eqn]
 rw [Gi h00] at hm;clear h00
 go_loopw [14] (fun u wr=>∃ k:Nat,k<=c.length/\u=.int .i64 k/\Own w0 wr ((g,J .i64 (tab 256 (eqn (c.take k))))::(g5,J .i64 (tab 256 (eqn (c.take 0))))::(g6,SP a n)::X) []) (fun u _=>c.length - (intOf u).toNat)
 case atStart=>exact ⟨0,by omega,rfl,hm⟩
 case round =>
  clear hm;obtain ⟨k,hk,rfl,hm⟩:=hrel;by_cases hlt:k < c.length
  ·have hs:=HB.out (gi c k) (by rw [BZ c k hlt];exact List.getElem_mem _);have hin:=HI.out _ _ _ _ hm;obtain ⟨ad2,cp2,he,hc⟩:=hin;cases he;obtain ⟨A,rfl,hcell⟩:=hc k hlt;obtain ⟨b,hb⟩:=Int.eq_ofNat_of_zero_le hs.1;have hb1:b < 256:=by omega
   rw [hb] at hcell;have hbd:=Fz (c.take k) b;have hlt2:=List.length_take_le' k c;have w3:IntKind.i64.wrap (eqn (c.take k) b+1)=eqn (c.take k) b+1:=i_6;have HG:=h_ (PU .i64 (eqn (c.take k)) hb1)
   have HP:=h_ (kH .i64 (n:=256) (eqn (c.take k)) (eqn (c.take (k+1))) b (eqn (c.take k) b+1) (fun j _=>by
    rw [Jm c k hlt,hb];by_cases e:j=b
    ·subst e;simp
    ·rw [if_neg e,if_neg (by omega),Int.add_zero]))
   have HSZ:Hid (b < (J .i64 (tab 256 (eqn (c.take k)))).size):=h_ (by rw [Df,Lm];exact hb1);clear hs hc hb hbd hlt2;generalize eqn (c.take k) b=y at *;generalize hT1:tab 256 (eqn (c.take k))=T1 at *;generalize hT2:tab 256 (eqn (c.take (k+1)))=T2 at *
   go_wp2_with (first
    |(with_reducible refine gIa (t:=22) ?_;(refine A8 rfl (Am rfl HE1.out rfl rfl rfl hlt) ?_))
    |(with_reducible refine gLd (t:=5) ?_;(refine A8 rfl (AU rfl rfl FV hcell) ?_))
    |(with_reducible first|(refine wl 3 0 hm ?_ (hv:=c_z HG.out))|(refine wc 3 0 hm ?_ (hf:=c_z HSZ.out) (hn:=c_z HP.out);clear hm;intro w hm)))
   exact xcm
  ·obtain rfl:c.length=k:=by omega
   rw [List.take_length] at hm;go_wp2
   have hm0:Own w0 wr ((g,J .i64 (tab 256 (eqn c)))::(g5,J .i64 (tab 256 (fun j=>if j < 0 then lsn c j else 0)))::(g6,SP a n)::X) []:=by
    rw [Gi (f:=fun j=>if j < 0 then lsn c j else 0) (g:=eqn (c.take 0)) (fun i _=>by simp [eqn])];exact hm
   clear hm;have hm:=hm0;clear hm0
   go_loopw [8,24] (fun z u wr=>∃ k:Nat,k<=256/\u=.int .i64 k/\z=.int .i64 (lsn c k)/\Own w0 wr ((g,J .i64 (tab 256 (eqn c)))::(g5,J .i64 (tab 256 (fun j=>if j < k then lsn c j else 0)))::(g6,SP a n)::X) []) (fun _ u _=>256 - (intOf u).toNat)
   case atStart=>exact ⟨0,by omega,rfl,by rw [uY HB.out],hm⟩
   case round =>
    clear hm;obtain ⟨k,hk,rfl,rfl,hm⟩:=hrel;by_cases hlt:k < 256
    ·have hbd:=A0k c k;have b1:=Ll c k;have b2:=Fz c k;have w3:IntKind.i64.wrap (lsn c k+eqn c k)=lsn c k+eqn c k:=i_6;have HG:=h_ (PU .i64 (eqn c) hlt);have HE2:=h_ (A4F c k)
     have HP:=h_ (kH .i64 (n:=256) (fun j=>if j < k then lsn c j else 0) (fun j=>if j < k+1 then lsn c j else 0) k (lsn c k) (fun j _=>by
      by_cases e:j=k
      ·subst e;rw [if_pos rfl,if_pos (by omega)]
      ·rw [if_neg e];by_cases h:j < k
       ·rw [if_pos h,if_pos (by omega)]
       ·rw [if_neg h,if_neg (by omega)]))
     have HSZ:Hid (k < (J .i64 (tab 256 (fun j=>if j < k then lsn c j else 0))).size):=h_ (by rw [Df,Lm];exact hlt);clear hbd b1 b2;generalize lsn c k=x at *;generalize eqn c k=y at *;generalize hT1:tab 256 (fun j=>if j < k then lsn c j else 0)=T1 at *;generalize hT2:tab 256 (fun j=>if j < k+1 then lsn c j else 0)=T2 at *;generalize hT3:tab 256 (eqn c)=T3 at *
     go_wp2_with (first
      |(with_reducible first|(refine wl 3 0 hm ?_ (hv:=c_z HG.out))|(refine wc 3 1 hm ?_ (hf:=c_z HSZ.out) (hn:=c_z HP.out);clear hm;intro w hm)))
     exact xdh
    ·obtain rfl:k=256:=by omega
     rw [Gi (f:=fun j=>if j < 256 then lsn c j else 0) (g:=lsn c) (fun i hi=>by rw [if_pos hi])] at hm
     go_wp2_with (first
      |(with_reducible first|(refine wla 115 1 hm ?_ (ht:=c_z (A4Q _)))|(refine ws 115 1 hm ?_ (ht:=c_z (A4Q _)) (h1:=c_z (J_one _ _));clear hm;intro w hm)))
     refine b_r (AQ rfl rfl (hm.row 1 rfl) (A4Q _)) rfl ⟨rfl,hm.below⟩
end Go.Proofs.YtkpbhdhkdonghaaGreat
