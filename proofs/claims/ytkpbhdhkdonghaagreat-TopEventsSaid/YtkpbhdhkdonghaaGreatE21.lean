/-
  Part 21 of the proof.
-/
import Derived.Laws.BitsLemmas
import Derived.Test.YtkpbhdhkdonghaaGreatE08
import Derived.Test.YtkpbhdhkdonghaaGreatE10
import Derived.Test.YtkpbhdhkdonghaaGreatE11
import Derived.Test.YtkpbhdhkdonghaaGreatE12
import Derived.Test.YtkpbhdhkdonghaaGreatE13
set_option linter.all false
namespace Go.Proofs.YtkpbhdhkdonghaaGreat
set_option maxHeartbeats 1000000
set_option maxRecDepth 100000
open Go Go.RowKit
theorem Yf (l:List Int) (c bit:Int) (n:Nat) (w0:World) (hl:l.length=258) (hb:Bytes l) (hk:JL l=true) (hn:n < 15) (c0:0<=c) (c1:c < 2 ^ n) (hc:pfc l n+cn0 l n<=c) (h0:0<=bit) (h1:bit<=1) (hx:pfc l (n+1)+cn0 l (n+1)<=2 * c+bit):Calls Tryz.prog 129 #[.agg (CS l c n),.int .i64 bit] w0 (fun e w'=>(e=.returned (.tuple #[.agg (CS l (2 * c+bit) (n+1)),.int .i64 0,.bool false]))/\Below w0.heap.size w0 w'):=by
 have HL:=Lib.hid hl
 have CV:=Lib.hid (fun w=>RN l c n w hl hb hk hn c0 c1 hc)
 have CF:Hid (∀ w,Calls Tryz.prog 171 #[.agg (J .u8 l),.int .i64 ((n:Int)+1)] w (RB w (.tuple #[.int .i64 (pfc l (n+1)),.int .i64 (cn0 l (n+1))]))):=Lib.hid (fun w=>first_any l (n+1) w hl hb (by omega))
 have b1:=Jf hl hb (n+1) (by omega)
 have b2:=Jq hl hb (n+1) (by omega)
 have h3:(2:Int) ^ (n+1)<=2 ^ 16:=by exact_mod_cast Nat.pow_le_pow_right (show 0 < 2 by decide) (show n+1<=16 by omega)
 have h4:(2:Int) ^ n<=2 ^ 16:=by exact_mod_cast Nat.pow_le_pow_right (show 0 < 2 by decide) (show n<=16 by omega)
 have w1:IntKind.i64.wrap (pfc l (n+1)+cn0 l (n+1))=pfc l (n+1)+cn0 l (n+1):=IntWalk.i64_in _ (by omega)
 have w2:IntKind.i64.wrap (c * 2)=c * 2:=IntWalk.i64_in _ (by omega)
 have w3:IntKind.i64.wrap ((n:Int)+1)=(n:Int)+1:=IntWalk.i64_in _ (by omega)
 have e1:bits .or .i64 (c * 2) bit=2 * c+bit:=bY c bit c0 (by omega) h0 h1
 have q0:bit / 2=0:=by omega
 have hge:pfc l (n+1)<=2 * c+bit:=by rw [pfc];omega
 have q4:decide (pfc l (n+1)+cn0 l (n+1)<=2 * c+bit)=true:=decide_eq_true hx
 clear hl hb hk b1 b2 h3 h4 hc c1 hge hx
 generalize pfc l (n+1)=x at *
 generalize cn0 l (n+1)=y at *
 go_enter Tryz.func129,Tryz.ntmps129
 have hm:=Own.nil w0
 go_wp2_with (first
  |(go_at_call 170;refine cB (CV.out _) hm ?_;clear hm;intro w1 hm)
  |(go_at_call 171;refine cB (CF.out _) hm ?_;clear hm;intro w1 hm)
  |(with_reducible refine wb hm ?_;clear hm;intro w g hm)
  |(with_reducible refine gAl ?_;(with_reducible refine wa _ hm QA ?_;clear hm;intro w g2 hm))
  |(with_reducible (first|refine wl 3 0 hm ?_ (hv:=(by with_unfolding_all (first|exact (LZ HL.out)|exact (Mc HL.out))))|refine wl 3 1 hm ?_ (hv:=(by with_unfolding_all (first|exact (LZ HL.out)|exact (Mc HL.out))))))
  |(with_reducible (first|refine wla 143 1 hm ?_ (ht:=(by with_unfolding_all exact DT HL.out))|refine wla 143 0 hm ?_ (ht:=(by with_unfolding_all exact DT HL.out))))
  |(with_reducible refine gLd (t:=139) ?_;(first|(refine A8 rfl (ldp 0 hm rfl rfl rfl (II HL.out) (F5 HL.out) (IJ HL.out)) ?_)|(refine A8 rfl (ldp 1 hm rfl rfl rfl (II HL.out) (F5 HL.out) (IJ HL.out)) ?_)))
  |(with_reducible refine gBu ?_;(refine A8 rfl (Kq rfl rfl rfl rfl HL.out) ?_))
  |(with_reducible (first|refine ws 143 0 hm ?_ (ht:=(by with_unfolding_all exact DT HL.out)) (hs:=(by with_unfolding_all exact Dn HL.out Az)) (h1:=(by with_unfolding_all exact Eb _ _ _))|refine ws 143 0 hm ?_ (ht:=(by with_unfolding_all exact DT HL.out)) (hs:=(by with_unfolding_all exact Dn HL.out HL.out)) (h1:=(by with_unfolding_all exact Eb _ _ _)));clear hm;intro w hm))
 refine bodyPost_ret (Ae rfl rfl (hm.row 0 rfl) (DT HL.out)) rfl ⟨rfl,hm.below⟩
theorem Yg (l:List Int) (c bit:Int) (n:Nat) (w0:World) (hl:l.length=258) (hb:Bytes l) (hk:JL l=true) (hn:n < 15) (c0:0<=c) (c1:c < 2 ^ n) (hc:pfc l n+cn0 l n<=c) (h0:0<=bit) (h1:bit<=1) (hx:¬ pfc l (n+1)+cn0 l (n+1)<=2 * c+bit):Calls Tryz.prog 129 #[.agg (CS l c n),.int .i64 bit] w0 (fun e w'=>(e=.returned (.tuple #[.agg (CS l 0 0),.int .i64 (pof l (n+1) (2 * c+bit - pfc l (n+1)) 0),.bool true]))/\Below w0.heap.size w0 w'):=by
 have HL:=Lib.hid hl
 have CV:=Lib.hid (fun w=>RN l c n w hl hb hk hn c0 c1 hc)
 have CF:Hid (∀ w,Calls Tryz.prog 171 #[.agg (J .u8 l),.int .i64 ((n:Int)+1)] w (RB w (.tuple #[.int .i64 (pfc l (n+1)),.int .i64 (cn0 l (n+1))]))):=Lib.hid (fun w=>first_any l (n+1) w hl hb (by omega))
 have b1:=Jf hl hb (n+1) (by omega)
 have b2:=Jq hl hb (n+1) (by omega)
 have h3:(2:Int) ^ (n+1)<=2 ^ 16:=by exact_mod_cast Nat.pow_le_pow_right (show 0 < 2 by decide) (show n+1<=16 by omega)
 have h4:(2:Int) ^ n<=2 ^ 16:=by exact_mod_cast Nat.pow_le_pow_right (show 0 < 2 by decide) (show n<=16 by omega)
 have w1:IntKind.i64.wrap (pfc l (n+1)+cn0 l (n+1))=pfc l (n+1)+cn0 l (n+1):=IntWalk.i64_in _ (by omega)
 have w2:IntKind.i64.wrap (c * 2)=c * 2:=IntWalk.i64_in _ (by omega)
 have w3:IntKind.i64.wrap ((n:Int)+1)=(n:Int)+1:=IntWalk.i64_in _ (by omega)
 have e1:bits .or .i64 (c * 2) bit=2 * c+bit:=bY c bit c0 (by omega) h0 h1
 have q0:bit / 2=0:=by omega
 have hge:pfc l (n+1)<=2 * c+bit:=by rw [pfc];omega
 have q4:decide (pfc l (n+1)+cn0 l (n+1)<=2 * c+bit)=false:=decide_eq_false hx
 have w4:IntKind.i64.wrap (2 * c+bit - pfc l (n+1))=2 * c+bit - pfc l (n+1):=IntWalk.i64_in _ (by omega)
 have CO:=Lib.hid (fun w=>A26 l (n+1) (2 * c+bit - pfc l (n+1)) w hl hb (by omega) (by omega))
 clear hl hb hk b1 b2 h3 h4 hc c1 hge hx
 generalize pof l (n+1) (2 * c+bit - pfc l (n+1)) 0=z at *
 generalize pfc l (n+1)=x at *
 generalize cn0 l (n+1)=y at *
 go_enter Tryz.func129,Tryz.ntmps129
 have hm:=Own.nil w0
 go_upto_region 7 with (first
  |(go_at_call 170;refine cB (CV.out _) hm ?_;clear hm;intro w1 hm)
  |(go_at_call 171;refine cB (CF.out _) hm ?_;clear hm;intro w1 hm)
  |(with_reducible refine wb hm ?_;clear hm;intro w g hm)
  |(with_reducible refine gAl ?_;(with_reducible refine wa _ hm QA ?_;clear hm;intro w g2 hm))
  |(with_reducible (first|refine wl 3 0 hm ?_ (hv:=(by with_unfolding_all (first|exact (LZ HL.out)|exact (Mc HL.out))))|refine wl 3 1 hm ?_ (hv:=(by with_unfolding_all (first|exact (LZ HL.out)|exact (Mc HL.out))))))
  |(with_reducible refine wla 143 1 hm ?_ (ht:=(by with_unfolding_all exact DT HL.out)))
  |(with_reducible refine gLd (t:=139) ?_;(first|(refine A8 rfl (ldp 0 hm rfl rfl rfl (II HL.out) (F5 HL.out) (IJ HL.out)) ?_)|(refine A8 rfl (ldp 1 hm rfl rfl rfl (II HL.out) (F5 HL.out) (IJ HL.out)) ?_)))
  |(with_reducible refine gBu ?_;(refine A8 rfl (Kq rfl rfl rfl rfl HL.out) ?_))
  |(with_reducible refine ws 143 0 hm ?_ (ht:=(by with_unfolding_all exact DT HL.out)) (hs:=(by with_unfolding_all exact Dn HL.out Az)) (h1:=(by with_unfolding_all exact Eb _ _ _));clear hm;intro w hm))
 refine rO hm 12 (.rds [(0,false),(1,true),(2,false),(3,false),(4,true),(5,false),(6,true),(7,false),(8,true),(9,false),(10,false)] (.one 11 (.brk 12 15 (.rds [(13,false),(14,false)] .done)))) ?_
 clear hm
 intro w hm
 simp only [KT.rds]
 refine kq ?_
 refine km (fun W hm=>ldp 1 hm rfl rfl rfl (II HL.out) (F5 HL.out) (IJ HL.out)) ?_
 (refine K_p rfl rfl (fun W=>MO rfl rfl HL.out) ?_)
 try simp only [Act.put,s3]
 refine kq ?_
 refine km (fun W hm=>ldp 0 hm rfl rfl rfl (II HL.out) (F5 HL.out) (IJ HL.out)) ?_
 refine kq ?_
 refine km (fun W hm=>ld 0 hm rfl rfl rfl (ot rfl) (Mc HL.out)) ?_
 refine kq ?_
 refine km (fun W hm=>ld 0 hm rfl rfl rfl (ot rfl) (LZ HL.out)) ?_
 refine kq ?_
 (refine K_p rfl rfl (fun W=>by go_simp;(rfl)) ?_)
 try simp only [Act.put,s3]
 refine DJ rfl rfl (fun K hK=>?_)
 go_simp
 refine (CO.out _).mono ?_
 rintro e w1 ⟨rfl,hb⟩
 replace hm:=hm.call hb
 clear hb
 refine hK _ _ ⟨fun W=>Own _ W _ _,fun _ h=>h,hm,?_⟩
 clear hK K
 (refine Em rfl rfl (Aw 0 hm rfl rfl (Ac rfl) rfl (DT HL.out) (Dn HL.out HL.out) (Eb _ _ _) ?_))
 clear hm
 intro w hm
 try simp only [puts,s2,List.set,List.eraseIdx,s3] at hm
 refine ⟨fun W=>Own _ W _ _,hm,?_⟩
 try simp only [Act.put,s3]
 iterate 2 refine kq ?_
 refine Ba ?_
 go_simp
 go_wp2
 refine bodyPost_ret (Ae rfl rfl (hm.row 0 rfl) (DT HL.out)) rfl ⟨rfl,hm.below⟩
def pfs (l:List Int) (c:Int) (n:Nat) (bit:Int):Int × Nat × Int × Bool :=
 if pfc l (n+1)+cn0 l (n+1)<=2 * c+bit then (2 * c+bit,n+1,0,false) else (0,0,pof l (n+1) (2 * c+bit - pfc l (n+1)) 0,true)
structure Uk (l:List Int) (c:Int) (n:Nat):Prop where
 len:l.length=258
 byt:Bytes l
 tab:JL l=true
 bit:n < 15
 pos:0<=c
 lt:c < 2 ^ n
 ge:pfc l n+cn0 l n<=c
theorem RP (l:List Int) (c bit:Int) (n:Nat) (h:Uk l c n) (h0:0<=bit) (h1:bit<=1) (w:World):Calls Tryz.prog 129 #[.agg (CS l c n),.int .i64 bit] w (RB w (.tuple #[.agg (CS l (pfs l c n bit).1 (pfs l c n bit).2.1),.int .i64 (pfs l c n bit).2.2.1,.bool (pfs l c n bit).2.2.2])):=by
 rw [pfs]
 by_cases hx:pfc l (n+1)+cn0 l (n+1)<=2 * c+bit
 ·rw [if_pos hx]
  exact Yf l c bit n w h.len h.byt h.tab h.bit h.pos h.lt h.ge h0 h1 hx
 ·rw [if_neg hx]
  exact Yg l c bit n w h.len h.byt h.tab h.bit h.pos h.lt h.ge h0 h1 hx
set_option maxHeartbeats 400000
variable {bit n:Int} {c l:List Int}
def cw (c:List Int):Int:=gi c 1 * 16384+gi c 2 * 8192+gi c 3 * 4096+gi c 4 * 2048+gi c 5 * 1024+gi c 6 * 512+gi c 7 * 256+gi c 8 * 128+gi c 9 * 64+gi c 10 * 32+gi c 11 * 16+gi c 12 * 8+gi c 13 * 4+gi c 14 * 2+gi c 15
theorem A0y (hc:c.length=16) (h0:0<=n) (h1:n<=15):cw (cnt1 c n)=cw c+share n:=by
 rw [cnt1,if_pos (by omega)]
 have e:n=0\/n=1\/n=2\/n=3\/n=4\/n=5\/n=6\/n=7\/n=8\/n=9\/n=10\/n=11\/n=12\/n=13\/n=14\/n=15:=by omega
 rcases e with rfl|rfl|rfl|rfl|rfl|rfl|rfl|rfl|rfl|rfl|rfl|rfl|rfl|rfl|rfl|rfl
 all_goals
  simp only [cw]
  rw [DY (by simp [hc]),DY (by simp [hc]),DY (by simp [hc]),DY (by simp [hc]),DY (by simp [hc]),DY (by simp [hc]),DY (by simp [hc]),DY (by simp [hc]),DY (by simp [hc]),DY (by simp [hc]),DY (by simp [hc]),DY (by simp [hc]),DY (by simp [hc]),DY (by simp [hc]),DY (by simp [hc])]
  simp [share]
  try omega
theorem wU {l:List Int} (hb:Bytes l):∀ k,k<=l.length->J6 l k<=32768->cw (Ji (l.take k))=J6 l k
|0,_,_=>by
  have:Ji (l.take 0)=z16:=rfl
  rw [this]
  simp [J6]
  decide
|k+1,h,hs=>by
  have hk:=Pq l k h
  have hx:=hb (gi l k) (by rw [BZ l k h];exact List.getElem_mem _)
  have b1:=KE (gi l k)
  have b2:=Nz l k (by omega)
  have h15:gi l k<=15:=by
   by_cases hn:gi l k<=15
   ·exact hn
   ·have:share (gi l k)=32769:=by rw [share,if_neg (by omega),if_pos (by omega)]
    omega
  rw [Pv l k h,A0y (QU l hb k (by omega)).1 hx.1 h15,wU hb k (by omega) (by omega),hk]
theorem lQ (hl:l.length=258) (hb:Bytes l) (hk:JL l=true):pfc l 15+cn0 l 15=32768:=by
 have hs:J6 l 258=32768:=by
  rw [JL,Bool.and_eq_true,beq_iff_eq] at hk
  exact hk.1
 have h:=wU hb 258 (by omega) (by omega)
 rw [List.take_of_length_le (by omega),hs] at h
 rw [<- h]
 simp [pfc,cn0,cw]
 omega
theorem Uk.zero (hl:l.length=258) (hb:Bytes l) (hk:JL l=true):Uk l 0 0:=⟨hl,hb,hk,by decide,by decide,by decide,by simp [pfc,cn0]⟩
theorem Uk.next {c:Int} {n:Nat} (h:Uk l c n) (h0:0<=bit) (h1:bit<=1):Uk l (pfs l c n bit).1 (pfs l c n bit).2.1:=by
 rw [pfs]
 split
 ·rename_i hx
  have hp:=h.pos
  have hlt:=h.lt
  have h2:2 * c+bit < 2 ^ (n+1):=by rw [Int.pow_succ];omega
  refine ⟨h.len,h.byt,h.tab,?_,by simp only;omega,h2,hx⟩
  have hn:=h.bit
  by_cases e:n+1 < 15
  ·exact e
  ·obtain rfl:n=14:=by omega
   have:=lQ h.len h.byt h.tab
   have h3:2 * c+bit < 32768:=by simpa using h2
   have h4:pfc l 15+cn0 l 15<=2 * c+bit:=hx
   omega
 ·exact Uk.zero h.len h.byt h.tab
set_option maxHeartbeats 1000000
set_option maxRecDepth 100000
theorem Lies.gZ {w w0:World} {A X rs:Rws} {ss:List Sl} {v:Value} {n:Nat} {k:IntKind} {l:List Int} (h:Lies 1 X v n (vs k l)) (hm:Own w0 w (A++(X++rs)) ss):In k w v l:=by
 have hn:n=l.length:=by have:=h.1;simp [vs] at this;omega
 subst hn
 rcases h.2 with ⟨rfl,hx,h0,rfl⟩|⟨g,p,c,cells,rfl,rfl,hc,hs,hcells⟩
 ·exact ⟨none,0,by rw [h0],fun i hi=>by omega⟩
 ·refine ⟨_,_,rfl,fun i hi=>⟨_,rfl,?_⟩⟩
  have hr:=hm.row (i:=A.length) (g:=g) (cs:=cells) (by simp)
  rw [Addr.add_lit,hr.cell,hcells i (by rw [Ai];exact hi),Fg _ _ i hi]
def AP (l:List Int) (i:Nat):Int:=gi l (i / 8) / 2 ^ (7 - i % 8) % 2
theorem A2K (x:Int) (h0:0<=x) (h1:x < 256):bits .and .u8 x 1=x % 2:=bits_mask .u8 8 (by decide) wraps_u8 1 (by decide) x h0 h1
theorem A2u (x:Int) (m:Nat) (h0:0<=x) (h1:x < 256):0<=x / 2 ^ m/\x / 2 ^ m < 256:=by
 have hp:(0:Int) < 2 ^ m:=Int.pow_pos (by decide)
 have:=Int.ediv_nonneg h0 (show (0:Int)<=2 ^ m by omega)
 have:=Int.ediv_le_self (2 ^ m) h0
 omega
theorem A0H (v:Value) (l:List Int) (i:Nat) (hB:Bytes l) (hl:l.length<=100000000) (hi:i < 8 * l.length) (w:World) (hin:In .u8 w v l):Calls Tryz.prog 143 #[v,.int .i64 i] w fun x w'=>(x=.returned (.int .u8 (AP l i)))/\w'=w:=by
 obtain ⟨ad,c,rfl,hc⟩:=hin
 obtain ⟨A,rfl,hA⟩:=hc (i / 8) (by omega)
 obtain ⟨k,hk⟩:∃ k:Nat,k=i / 8:=⟨_,rfl⟩
 obtain ⟨q,hq⟩:∃ q:Nat,q=i % 8:=⟨_,rfl⟩
 have hkl:k < l.length:=by omega
 have hb:=hB (gi l k) (by rw [BZ l k hkl];exact List.getElem_mem _)
 have HR:Hid (AP l i=gi l k / 2 ^ (7 - q) % 2):=Lib.hid (by rw [AP,hk,hq])
 rw [<- hk] at hA
 obtain ⟨b0,b1⟩:=hb
 have e1:bits .and .i64 (i:Int) 7=(q:Int):=by rw [and7 _ (by omega) (by omega)];omega
 have e2:(i:Int) / 8=(k:Int):=by omega
 have hq7:q<=7:=by omega
 have hA':=Lib.hid hA
 have HE2:=Lib.hid e2
 clear hc hA hk hq e2
 generalize gi l k=x at *
 obtain ⟨i5,hE⟩:=Md
 have HE:=Lib.hid hE
 clear hE
 go_enter Tryz.func143,Tryz.ntmps143
 go_wp2_with (first
 |(refine A8 rfl (Am (k:=k) rfl HE.out rfl rfl HE2.out hkl) ?_)
 |(refine A8 rfl (AU rfl rfl (ot rfl) hA'.out) ?_))
 have hd:=A2u x (7 - q) b0 b1
 rw [A2K _ hd.1 hd.2,<- HR.out]
 go_ret
 exact ⟨rfl,rfl⟩
def bitsOf (l:List Int) (k:Nat):List Int:=(List.range k).map (AP l)
theorem ZL (l:List Int) (k:Nat):bitsOf l (k+1)=bitsOf l k++[AP l k]:=by simp [bitsOf,List.range_succ]
theorem Ny (l:List Int) (k:Nat):(bitsOf l k).length=k:=by simp [bitsOf]
theorem KY (l:List Int) (i:Nat):0<=AP l i/\AP l i<=1:=by unfold AP;omega
def kE (w0:World) (l:List Int) (rs:Rws) (ss:List Sl) (x:Ending) (w':World):Prop:=∃ X v,x=.returned v/\Lies 1 X v l.length (vs .i64 l)/\Own w0 w' (X++rs) ss
theorem fJ (v:Value) (l:List Int) (w0 w:World) (rs:Rws) (ss:List Sl) (hm:Own w0 w rs ss) (hin:∀ W,Own w0 W rs ss->In .u8 W v l) (hB:Bytes l) (hl:l.length<=1000000):Calls Tryz.prog 102 #[v] w (kE w0 (bitsOf l (8 * l.length)) rs ss):=by
 obtain ⟨ad,c,rfl,_⟩:=hin w hm
 have CB:Hid (∀ (i:Nat) W,Own w0 W rs ss->i < 8 * l.length->Calls Tryz.prog 143 #[.slice ad l.length c,.int .i64 i] W fun x w'=>(x=.returned (.int .u8 (AP l i)))/\w'=W):=Lib.hid fun i W h hi=>A0H _ l i hB (by omega) hi W (hin W h)
 clear hin
 obtain ⟨i5,hE⟩:=wM
 have HE:=Lib.hid hE
 obtain ⟨i6,hL⟩:=nR
 have HL:=Lib.hid hL
 clear hE hL
 go_enter Tryz.func102,Tryz.ntmps102
 go_wp2
 go_loopw [2,7] (fun z u wr=>∃ (k:Nat) (X:Rws) (ad:Option Addr) (c:Nat),k<=8 * l.length/\u=.int .i64 k/\z=.slice ad k c/\Lies 1 X z k (vs .i64 (bitsOf l k))/\Own w0 wr (X++rs) ss) (fun _ u _=>8 * l.length - (intOf u).toNat)
 case atStart=>exact ⟨0,[],none,0,by omega,rfl,rfl,Lies.nil 1,hm⟩
 case round =>
  clear hm
  obtain ⟨k,X,ad2,c2,hk,rfl,rfl,hX,hm⟩:=hrel
  have HX:=Lib.hid hX
  clear hX
  by_cases hlt:k < 8 * l.length
  ·have q3:decide ((k:Int) < 8 * (l.length:Int))=true:=decide_eq_true (by omega)
   have hbd:=KY l k
   have HS:=Lib.hid (ZL l k)
   have CB2:Hid (∀ W,Own w0 W (X++rs) ss->Calls Tryz.prog 143 #[.slice ad l.length c,.int .i64 k] W fun x w'=>(x=.returned (.int .u8 (AP l k)))/\w'=W):=Lib.hid fun W h=>CB.out k W (h.sub (List.sublist_append_right X rs) (List.Sublist.refl _)) hlt
   generalize AP l k=y at *
   go_wp2_with (first
  |(go_at_call 143;refine (CB2.out _ hm).mono ?_;rintro e w1 ⟨rfl,rfl⟩)
  |(refine Ad rfl (JQ hm rfl HL.out (Ac rfl) rfl ?_);clear hm;intro w gb hm)
  |(refine Ad rfl (GR (A:=[_]) (X:=X) hm rfl HE.out (Ac rfl) HX.out (Ac rfl) (fun W h=>From.one (h.row 0 rfl)) (tJ rfl) (by omega) (by omega) (by omega) ?_);clear hm;intro X2 v2 w hX2 hm;simp only [s2] at hm;replace hm:=hm.dropRow;obtain ⟨ad2,c2,rfl⟩:=hX2.shape;have HX2:=Lib.hid hX2;clear hX2))
   have HX3:=HX2.out
   rw [yZ,qy,<- HS.out] at HX3
   clear HX2
   have HX4:=Lib.hid HX3
   clear HX3
   go_roundw
   case rel=>exact ⟨k+1,X2,ad2,c2,by omega,by go_num,rfl,HX4.out,hm⟩
   case measure=>simp [intOf];omega
  ·obtain rfl:k=8 * l.length:=by omega
   go_wp2
   go_ret
   exact ⟨X,_,rfl,by rw [Ny];exact HX.out,hm⟩
set_option maxHeartbeats 2000000
set_option maxRecDepth 100000
variable {l:List Int} {c k:Nat}
theorem A1D (w:World):(zeroValue 184).run Tryz.prog w=.ok (.agg (J .i64 (tab 257 fun _=>0))) w:=by kernel_rfl
def Iy (l:List Int) (k j:Nat):Int:=if j=0 then 0 else eqn (l.take k) (j - 1)
def G7 (l:List Int) (k j:Nat):Int:=if j<=k then lsn l j else eqn l (j - 1)
def FK (l:List Int) (k j:Nat):Int:=lsn l j+eqn (l.take k) j
theorem wY (hk:k < l.length) (hc:gi l k=c) (j:Nat):(if j=c+1 then Iy l k (c+1)+1 else Iy l k j)=Iy l (k+1) j:=by
 by_cases h:j=c+1
 ·subst h
  rw [if_pos rfl]
  simp only [Iy]
  rw [if_neg (by omega),if_neg (by omega),Nat.add_sub_cancel,Jm l k hk,hc,if_pos rfl]
 ·rw [if_neg h]
  simp only [Iy]
  by_cases h0:j=0
  ·subst h0;simp
  ·rw [if_neg h0,if_neg h0,Jm l k hk,hc,if_neg (by omega),Int.add_zero]
theorem wX (k j:Nat):(if j=k+1 then G7 l k (k+1)+G7 l k k else G7 l k j)=G7 l (k+1) j:=by
 simp only [G7]
 by_cases h:j=k+1
 ·subst h;rw [if_pos rfl,if_neg (by omega),if_pos (Nat.le_refl _),if_pos (Nat.le_refl _),YO];rfl
 ·rw [if_neg h]
  by_cases h2:j<=k
  ·rw [if_pos h2,if_pos (by omega)]
  ·rw [if_neg h2,if_neg (by omega)]
theorem ZF (hk:k < l.length) (hc:gi l k=c) (j:Nat):(if j=c then FK l k c+1 else FK l k j)=FK l (k+1) j:=by
 simp only [FK]
 rw [Jm l k hk,hc]
 by_cases h:j=c
 ·subst h;rw [if_pos rfl,if_pos rfl];omega
 ·rw [if_neg h,if_neg (by omega),Int.add_zero]
theorem fE (l:List Int) (k j:Nat):0<=Iy l k j/\Iy l k j<=l.length:=by
 rw [Iy];split
 ·omega
 ·have:=Fz (l.take k) (j - 1);have:=List.length_take_le' k l;omega
theorem TV (l:List Int) (k j:Nat):0<=G7 l k j/\G7 l k j<=l.length:=by
 rw [G7];split
 ·exact Ll l j
 ·exact Fz l _
theorem fD (l:List Int) (k j:Nat):0<=FK l k j/\FK l k j<=2 * l.length:=by
 have:=Ll l j;have:=Fz (l.take k) j;have:=List.length_take_le' k l;rw [FK];omega
theorem qx (n:Nat):(List.replicate n (Value.int .i64 0)).toArray=J .i64 (tab n fun _=>0):=by rw [<- kT,J,vs,List.map_replicate]
def EX (l:List Int) (index k r:Nat):Int:=if r < k then rowsOf l index r else 0
theorem fK (v:Value) (l:List Int) (index:Nat) (w0 w:World) (rs:Rws) (ss:List Sl) (hm:Own w0 w rs ss) (hv:∀ W,Own w0 W rs ss->In .u8 W v l) (hb:Bytes l) (h1:1<=index) (h2:index<=l.length) (hn:l.length<=1000000):Calls Tryz.prog 71 #[v,.int .i64 index] w (fun e w'=>∃ g,e=.returned (.slice (some ⟨g,0,none⟩) (l.length+1) (l.length+1))/\Own w0 w' ((g,J .i64 (tab (l.length+1) (rowsOf l index)))::rs) ss):=by
 obtain ⟨ad,cp,rfl,_⟩:=hv w hm
 have HC:Hid (∀ W,Own w0 W rs ss->∀ k,k < l.length->∃ A,ad=some A/\W.cell? (A.add k)=some (.int .u8 (gi l k))):=Lib.hid fun W h k hk=>by
  obtain ⟨ad2,cp2,he,hc⟩:=hv W h
  cases he
  exact hc k hk
 obtain ⟨i3,hE⟩:=Md
 have HE:=Lib.hid hE
 obtain ⟨i4,hF⟩:=nR
 have HF:=Lib.hid hF
 obtain ⟨i5,hF1⟩:=wM
 have HF1:=Lib.hid hF1
 have HB:=Lib.hid hb
 have wl:IntKind.i64.wrap ((l.length:Int)+1)=((l.length+1:Nat):Int):=by rw [IntWalk.i64_in _ (by omega)];push_cast;rfl
 clear hE hF hF1 hb hv
 go_enter Tryz.func71,Tryz.ntmps71
 go_wp2_with (first
 |(with_reducible refine gAl (t:=184) ?_;(refine Ad rfl (Dl hm rfl A1D ?_);clear hm;intro w g hm)))
 have hm0:Own w0 w ((g,J .i64 (tab 257 (Iy l 0)))::rs) ss:=by
  rw [Gi (g:=fun _=>0)]
  ·exact hm
  ·intro i _;rw [Iy];split<;>rfl
 clear hm
 have hm:=hm0
 clear hm0
 go_loopw [16] (fun u wr=>∃ k:Nat,k<=l.length/\u=.int .i64 k/\Own w0 wr ((g,J .i64 (tab 257 (Iy l k)))::rs) ss) (fun u _=>l.length - (intOf u).toNat)
 case atStart=>exact ⟨0,by omega,rfl,hm⟩
 case round =>
  clear hm
  obtain ⟨k,hk,rfl,hm⟩:=hrel
  by_cases hlt:k < l.length
  ·have hs:=HB.out (gi l k) (by rw [BZ l k hlt];exact List.getElem_mem _)
   obtain ⟨A,rfl,hA0⟩:=HC.out _ hm.dropRow k hlt
   obtain ⟨c,hc⟩:=Int.eq_ofNat_of_zero_le hs.1
   have hcell:wr.cell? (A.add k)=some (.int .u8 c):=by rw [<- hc];exact hA0
   have hc1:c+1 < 257:=by omega
   have w1:IntKind.i64.wrap (c:Int)=c:=IntWalk.i64_in _ (by omega)
   have w2:IntKind.i64.wrap ((c:Int)+1)=((c+1:Nat):Int):=by rw [IntWalk.i64_in _ (by omega)];push_cast;rfl
   have hbd:=fE l k (c+1)
   have w3:IntKind.i64.wrap (Iy l k (c+1)+1)=Iy l k (c+1)+1:=IntWalk.i64_in _ (by omega)
   have HG:=Lib.hid (PU .i64 (Iy l k) hc1)
   have HP:=Lib.hid (kH .i64 (n:=257) (Iy l k) (Iy l (k+1)) (c+1) (Iy l k (c+1)+1) (fun j _=>wY hlt hc j))
   have HSZ:Hid (c+1 < (J .i64 (tab 257 (Iy l k))).size):=Lib.hid (by rw [Df,Lm];exact hc1)
   clear hA0 hs hc hbd
   generalize Iy l k (c+1)=y at *
   generalize hT1:tab 257 (Iy l k)=T1 at *
   generalize hT2:tab 257 (Iy l (k+1))=T2 at *
   go_wp2_with (first
    |(with_reducible refine gIa (t:=22) ?_;(refine A8 rfl (Am rfl HE.out rfl rfl rfl hlt) ?_))
    |(with_reducible refine gLd (t:=5) ?_;(refine A8 rfl (AU rfl rfl FV hcell) ?_))
    |(with_reducible refine gLd (t:=3) ?_;(refine A8 rfl (ld 0 hm rfl rfl rfl (ot rfl) HG.out) ?_))
    |(with_reducible refine gSt (t:=3) ?_;(refine Ad rfl (AZ 0 hm rfl rfl (Ac rfl) rfl (ot rfl) HSZ.out rfl rfl HP.out ?_);clear hm;intro w hm;try simp only [puts,s2,List.set] at hm)))
   go_roundw
   case rel=>exact ⟨k+1,by omega,by go_num,by rw [hT2];exact hm⟩
   case measure=>simp [intOf];omega
  ·obtain rfl:l.length=k:=by omega
   go_wp2
   have hm0:Own w0 wr ((g,J .i64 (tab 257 (G7 l 0)))::rs) ss:=by
    rw [Gi (g:=Iy l l.length)]
    ·exact hm
    ·intro i _
     rw [Iy,G7,List.take_length]
     by_cases h:i=0
     ·subst h;rw [if_pos (Nat.le_refl _),if_pos rfl,uY HB.out]
     ·rw [if_neg h,if_neg (by omega)]
   clear hm
   have hm:=hm0
   clear hm0
   go_loopw [28] (fun u wr=>∃ k:Nat,k<=256/\u=.int .i64 k/\Own w0 wr ((g,J .i64 (tab 257 (G7 l k)))::rs) ss) (fun u _=>256 - (intOf u).toNat)
   case atStart=>exact ⟨0,by omega,rfl,hm⟩
   case round =>
    clear hm
    obtain ⟨k,hk,rfl,hm⟩:=hrel
    by_cases hlt:k < 256
    ·have hc0:k < 257:=by omega
     have hc1:k+1 < 257:=by omega
     have b1:=TV l k k
     have b2:=TV l k (k+1)
     have w2:IntKind.i64.wrap ((k:Int)+1)=((k+1:Nat):Int):=by rw [IntWalk.i64_in _ (by omega)];push_cast;rfl
     have w3:IntKind.i64.wrap (G7 l k (k+1)+G7 l k k)=G7 l k (k+1)+G7 l k k:=IntWalk.i64_in _ (by omega)
     have HG0:=Lib.hid (PU .i64 (G7 l k) hc0)
     have HG1:=Lib.hid (PU .i64 (G7 l k) hc1)
     have HP:=Lib.hid (kH .i64 (n:=257) (G7 l k) (G7 l (k+1)) (k+1) (G7 l k (k+1)+G7 l k k) (fun j _=>wX k j))
     have HSZ:Hid (k+1 < (J .i64 (tab 257 (G7 l k))).size):=Lib.hid (by rw [Df,Lm];exact hc1)
     clear b1 b2
     generalize G7 l k (k+1)=y at *
     generalize G7 l k k=z at *
     generalize hT1:tab 257 (G7 l k)=T1 at *
     generalize hT2:tab 257 (G7 l (k+1))=T2 at *
     go_upto_region 10 with fail
     refine NP hm 9 (.rds [(0,false),(1,false),(2,false),(3,true),(4,false),(5,false),(6,true),(7,false),(8,false)] (.brk 9 10 .done)) rfl (by kernel_rfl) rfl (by kernel_rfl) (fun _ _ d _ _ h=>by cases d<;>exact h) ?_
     clear hm
     intro w hm
     simp only [KT.rds]
     (refine K_p rfl rfl (fun W=>by go_simp;rfl) ?_)
     try simp only [Act.put,s3]
     (refine K_p rfl rfl (fun W=>by go_simp;show Value.int .i64 _=Value.int .i64 ((k+1:Nat):Int);rfl) ?_)
     try simp only [Act.put,s3]
     (refine K_p rfl rfl (fun W=>by go_simp;rw [if_pos (by omega)]) ?_)
     try simp only [Act.put,s3]
     (refine K_m rfl rfl (fun W hm=>ld 0 hm rfl rfl rfl (ot rfl) HG1.out) ?_)
     try simp only [Act.put,s3]
     (refine K_p rfl rfl (fun W=>by go_simp;rfl) ?_)
     try simp only [Act.put,s3]
     (refine K_p rfl rfl (fun W=>by go_simp;rw [if_pos (by omega)]) ?_)
     try simp only [Act.put,s3]
     (refine K_m rfl rfl (fun W hm=>ld 0 hm rfl rfl rfl (ot rfl) HG0.out) ?_)
     try simp only [Act.put,s3]
     (refine K_p rfl rfl (fun W=>by go_simp;(first|(rw [IntWalk.i64_in _ (by omega)];done)|(rw [IntWalk.i64_in _ (by omega)];rfl)|rfl)) ?_)
     try simp only [Act.put,s3]
     (refine K_p rfl rfl (fun W=>by go_simp;rw [if_pos (by omega)]) ?_)
     try simp only [Act.put,s3]
     (refine Em rfl rfl (AZ 0 hm rfl rfl (Ac rfl) rfl (ot rfl) HSZ.out rfl rfl HP.out ?_))
     clear hm
     intro w hm
     try simp only [puts,s2,List.set,List.eraseIdx,s3] at hm
     refine ⟨fun W=>Own _ W _ _,hm,?_⟩
     try simp only [Act.put,s3]
     refine Ba ?_
     go_simp
     go_wp2
     go_roundw
     case rel=>exact ⟨k+1,by omega,by go_num,by rw [hT2];exact hm⟩
     case measure=>simp [intOf];omega
    ·obtain rfl:k=256:=by omega
     go_wp2_with (first
      |(with_reducible refine gMs ?_;(refine Me (l.length+1) hm rfl rfl HF.out rfl rfl (by omega) (by omega) ?_;clear hm;intro w g9 hm)))
     have hm0:Own w0 w ((g9,J .i64 (tab (l.length+1) (EX l index 0)))::(g,J .i64 (tab 257 (FK l (Iw index 0))))::rs) ss:=by
      rw [qx] at hm
      rw [Gi (f:=EX l index 0) (g:=fun _=>0) (fun i _=>by rw [EX,if_neg (by omega)]),Gi (f:=FK l (Iw index 0)) (g:=G7 l 256) (fun i hi=>by rw [FK,G7,if_pos (by omega),show Iw index 0=0 by rw [Iw,if_neg (by omega)]];simp [eqn])]
      exact hm
     clear hm
     have hm:=hm0
     clear hm0
     go_loopw [47] (fun u wr=>∃ k:Nat,k<=l.length+1/\u=.int .i64 k/\Own w0 wr ((g9,J .i64 (tab (l.length+1) (EX l index k)))::(g,J .i64 (tab 257 (FK l (Iw index k))))::rs) ss) (fun u _=>l.length+1 - (intOf u).toNat)
     case atStart=>exact ⟨0,by omega,rfl,hm⟩
     case round =>
      clear hm
      obtain ⟨k,hk,rfl,hm⟩:=hrel
      by_cases hlt:k < l.length+1
      ·have q0:decide ((k:Int) < ((l.length+1:Nat):Int))=true:=decide_eq_true (by omega)
       have CP:=Lib.hid (fun w=>Vf ad cp l.length index k w h2 (by omega) (by omega))
       by_cases hi:k=index
       ·rw [if_pos hi] at CP
        have HX:Hid (∀ W,Own w0 W ((g9,J .i64 (tab (l.length+1) (EX l index k)))::(g,J .i64 (tab 257 (FK l (Iw index k))))::rs) ss->Own w0 W ((g9,J .i64 (tab (l.length+1) (EX l index (k+1))))::(g,J .i64 (tab 257 (FK l (Iw index (k+1)))))::rs) ss):=Lib.hid fun W h=>by
         rw [show Iw index (k+1)=Iw index k by simp only [Iw];rw [if_pos (by omega),if_neg (by omega)];omega,Gi (f:=EX l index (k+1)) (g:=EX l index k)]
         ·exact h
         ·intro r _
          simp only [EX,rowsOf]
          by_cases h1:r < k
          ·rw [if_pos h1,if_pos (by omega)]
          ·rw [if_neg h1]
           split
           ·rw [if_pos (by omega)]
           ·rfl
        clear hi
        generalize tab (l.length+1) (EX l index k)=T1 at *
        generalize tab 257 (FK l (Iw index k))=T2 at *
        go_wp2_with (first
         |(go_at_call 72;refine (CP.out _).mono ?_;rintro e w1 ⟨rfl,rfl⟩))
        go_roundw
        case rel=>exact ⟨k+1,by omega,by go_num,HX.out _ hm⟩
        case measure=>simp [intOf];omega
       ·rw [if_neg hi] at CP
        obtain ⟨p,hp⟩:∃ p,p=Iw index k:=⟨_,rfl⟩
        have hp1:p=if index < k then k - 1 else k:=hp
        have hpl:p < l.length:=by split at hp1<;>omega
        have hp2:Iw index (k+1)=p+1:=by rw [Iw];split at hp1<;>split<;>omega
        have hs:=HB.out (gi l p) (by rw [BZ l p hpl];exact List.getElem_mem _)
        obtain ⟨A,rfl,hA0⟩:=HC.out _ hm.dropRow.dropRow p hpl
        have hA:∀ W,Own w0 W rs ss->W.cell? (A.add p)=some (.int .u8 (gi l p)):=fun W h=>by
         obtain ⟨A2,he,h2⟩:=HC.out W h p hpl
         cases he
         exact h2
        obtain ⟨c,hc⟩:=Int.eq_ofNat_of_zero_le hs.1
        rw [hc] at hA
        have hc1:c < 257:=by omega
        have w1:IntKind.i64.wrap (c:Int)=c:=IntWalk.i64_in _ (by omega)
        have hbd:=fD l p c
        have w3:IntKind.i64.wrap (FK l p c+1)=FK l p c+1:=IntWalk.i64_in _ (by omega)
        have HP:=Lib.hid (kH .i64 (n:=257) (FK l p) (FK l (p+1)) c (FK l p c+1) (fun j _=>ZF hpl hc j))
        have HG:=Lib.hid (PU .i64 (FK l p) hc1)
        have HG2:Hid ((J .i64 (tab 257 (FK l (p+1))))[c]?=some (.int .i64 (FK l p c+1))):=Lib.hid (by rw [PU .i64 _ hc1,<- ZF hpl hc,if_pos rfl])
        have HSZ:Hid (c < (J .i64 (tab 257 (FK l p))).size):=Lib.hid (by rw [Df,Lm];exact hc1)
        have HO:Hid ((J .i64 (tab (l.length+1) (EX l index k))).setIfInBounds k (.int .i64 (FK l p c+1))=J .i64 (tab (l.length+1) (EX l index (k+1)))):=Lib.hid (kH .i64 _ _ k _ (fun j hj=>by
         simp only [EX]
         by_cases e:j=k
         ·subst e
          rw [if_pos rfl,if_pos (by omega),rowsOf,if_neg hi,aft,<- hp,hc,FK,Int.toNat_natCast];omega
         ·rw [if_neg e]
          by_cases h1:j < k
          ·rw [if_pos h1,if_pos (by omega)]
          ·rw [if_neg h1,if_neg (by omega)]))
        have HO0:Hid ((J .i64 (tab (l.length+1) (EX l index k))).setIfInBounds (0+k) (.int .i64 (FK l p c+1))=J .i64 (tab (l.length+1) (EX l index (k+1)))):=Lib.hid (by rw [Nat.zero_add];exact HO.out)
        have HOZ:Hid (k < (J .i64 (tab (l.length+1) (EX l index k))).size):=Lib.hid (by rw [Df,Lm];exact hlt)
        have HOZ0:Hid (0+k < (J .i64 (tab (l.length+1) (EX l index k))).size):=Lib.hid (by rw [Df,Lm];omega)
        rw [<- hp] at CP hm
        clear hA0 hs hc hbd hp1 hp hi
        generalize FK l p c=z at *
        generalize hT1:tab 257 (FK l p)=T1 at *
        generalize hT2:tab 257 (FK l (p+1))=T2 at *
        generalize tab (l.length+1) (EX l index k)=U1 at *
        generalize hU2:tab (l.length+1) (EX l index (k+1))=U2 at *
        go_wp2_with (first
         |(go_at_call 72;refine (CP.out _).mono ?_;rintro e w1 ⟨rfl,rfl⟩)
         |(with_reducible refine gIa (t:=22) ?_;(refine A8 rfl (Am rfl HE.out rfl rfl rfl hpl) ?_))
         |(with_reducible refine gIa (t:=124) ?_;(refine A8 rfl (ix1 (k:=k) rfl HF1.out rfl rfl rfl hlt) ?_))
         |(with_reducible refine gLd (t:=5) ?_;(refine A8 rfl (AU rfl rfl FV (hA _ hm.dropRow.dropRow)) ?_))
         |(with_reducible refine gLd (t:=3) ?_;(refine A8 rfl (ld 1 hm rfl rfl rfl (ot rfl) (by first|exact HG.out|exact HG2.out)) ?_))
         |(with_reducible refine gSt (t:=3) ?_;(first|(refine Ad rfl (AZ 1 hm rfl rfl (Ac rfl) rfl (ot rfl) HSZ.out rfl rfl HP.out ?_);clear hm;intro w hm;try simp only [puts,s2,List.set] at hm)|(refine Ad rfl (AZ 0 hm rfl rfl (Ac rfl) rfl (ot rfl) (by first|exact HOZ.out|exact HOZ0.out) rfl rfl (by first|exact HO.out|exact HO0.out) ?_);clear hm;intro w hm;try simp only [puts,s2,List.set] at hm))))
        go_roundw
        case rel=>exact ⟨k+1,by omega,by go_num,by rw [hU2,hp2,hT2];exact hm⟩
        case measure=>simp [intOf];omega
      ·obtain rfl:k=l.length+1:=by omega
       have q0:decide (((l.length+1:Nat):Int) < ((l.length+1:Nat):Int))=false:=decide_eq_false (by omega)
       rw [Gi (f:=EX l index (l.length+1)) (g:=rowsOf l index) (fun i hi=>by rw [EX,if_pos hi])] at hm
       generalize hU:tab (l.length+1) (rowsOf l index)=U at *
       generalize tab 257 (FK l (Iw index (l.length+1)))=T at *
       go_wp2
       go_ret
       exact ⟨g9,rfl,by rw [hU];exact hm.sub (List.Sublist.cons_cons _ (List.sublist_cons_self _ _)) (List.Sublist.refl _)⟩
set_option maxHeartbeats 2000000
set_option maxRecDepth 100000
variable {acc l:List Int} {index n r:Nat}
def bwk (l:List Int) (index:Nat):Nat->Nat->List Int->Option (List Int)
|0,r,acc=>if r=index then some acc else none
|k+1,r,acc=>if r=index then none else bwk l index k (aft l (Iw index r)).toNat (gi l (Iw index r)::acc)
theorem A0k (l:List Int) (c:Nat):eqn l c+lsn l c<=l.length:=by
 have:=Ll l (c+1)
 rw [YO] at this
 omega
theorem Zq (l:List Int) (k:Nat) (h:k < l.length) (c:Nat) (hc:gi l k=c):eqn (l.take k) c+1<=eqn l c:=by
 have h1:=Jm l k h c
 rw [if_pos hc] at h1
 have h2:eqn (l.take (k+1)) c<=eqn l c:=by
  have:=(List.take_sublist (k+1) l).countP_le (p:=fun x:Int=>decide (x=(c:Int)))
  simp only [eqn];omega
 omega
theorem oI (hb:Bytes l) (k:Nat) (h:k < l.length):1<=aft l k/\aft l k<=l.length:=by
 have h2:=Fz (l.take k) (gi l k).toNat
 have h1:=Ll l (gi l k).toNat
 have hs:=hb (gi l k) (by rw [BZ l k h];exact List.getElem_mem _)
 have h3:=Zq l k h (gi l k).toNat (by omega)
 have h4:=A0k l (gi l k).toNat
 rw [aft]
 omega
theorem A0z (h1:1<=index) (h2:index<=n) (hr:r<=n) (hne:r ≠ index):Iw index r < n:=by
 rw [Iw];split<;>omega
def txt (n:Nat) (acc:List Int):List Int:=List.replicate (n - acc.length) 0++acc
theorem zi (x:Int) (h:acc.length < n):(txt n acc).set (n - acc.length - 1) x=txt n (x::acc):=by
 rw [txt,txt,List.length_cons]
 obtain ⟨m,hm⟩:∃ m,n - acc.length=m+1:=⟨n - acc.length - 1,by omega⟩
 rw [hm,show n - (acc.length+1)=m by omega,show m+1 - 1=m by omega,List.replicate_succ',List.append_assoc,List.set_append_right _ _ (by simp)]
 simp
theorem A0c (h:acc.length<=n):(txt n acc).length=n:=by simp [txt];omega
def aB (w0:World) (o:Option (List Int)) (n:Nat) (rs:Rws) (ss:List Sl) (x:Ending) (w':World):Prop :=
 match o with
|none=>x=.returned (.tuple #[.slice none 0 0,.int .i64 170])/\Own w0 w' rs ss
|some t=>∃ g,t.length=n/\x=.returned (.tuple #[.slice (some ⟨g,0,none⟩) n n,.int .i64 0])/\Own w0 w' ((g,J .u8 t)::rs) ss
theorem xJ (v:Value) (l:List Int) (index:Nat) (w0 w:World) (rs:Rws) (ss:List Sl) (hm:Own w0 w rs ss) (hv:∀ W,Own w0 W rs ss->In .u8 W v l) (hb:Bytes l) (h1:1<=index) (h2:index<=l.length) (hn:l.length<=1000000):Calls Tryz.prog 27 #[v,.int .i64 index] w (aB w0 (bwk l index l.length 0 []) l.length rs ss):=by
 have CB:Hid (∀ {W},Own w0 W rs ss->Calls Tryz.prog 71 #[v,.int .i64 index] W (fun e w'=>∃ g,e=.returned (.slice (some ⟨g,0,none⟩) (l.length+1) (l.length+1))/\Own w0 w' ((g,J .i64 (tab (l.length+1) (rowsOf l index)))::rs) ss)):=Lib.hid fun h=>fK v l index w0 _ rs ss h hv hb h1 h2 hn
 obtain ⟨ad,cp,rfl,_⟩:=hv w hm
 have HC:Hid (∀ W,Own w0 W rs ss->∀ k,k < l.length->∃ A,ad=some A/\W.cell? (A.add k)=some (.int .u8 (gi l k))):=Lib.hid fun W h k hk=>by
  obtain ⟨ad2,cp2,he,hc⟩:=hv W h
  cases he
  exact hc k hk
 obtain ⟨i3,hE⟩:=Md
 have HE:=Lib.hid hE
 obtain ⟨i4,hF⟩:=nP
 have HF:=Lib.hid hF
 obtain ⟨i5,hF1⟩:=wM
 have HF1:=Lib.hid hF1
 have HB:=Lib.hid hb
 have q1:decide ((index:Int) < 0)=false:=decide_eq_false (by omega)
 have q2:decide ((l.length:Int) < index)=false:=decide_eq_false (by omega)
 have q3:decide (l.length < index)=false:=decide_eq_false (by omega)
 have q4:((index:Int) == 0)=false:=by simp;omega
 have wl:IntKind.i64.wrap ((l.length:Int) - 1)=(l.length:Int) - 1:=IntWalk.i64_in _ (by omega)
 obtain ⟨o,ho⟩:∃ o,o=bwk l index l.length 0 []:=⟨_,rfl⟩
 rw [<- ho]
 have HO:=Lib.hid ho
 clear hE hF hF1 hb hv ho
 go_enter Tryz.func27,Tryz.ntmps27
 go_wp2_with (first
 |(go_at_call 71;have _t:=hm;refine (CB.out hm).mono ?_;clear _t;clear hm;rintro e w ⟨g7,rfl,hm⟩)
 |(with_reducible refine gMs ?_;(refine Me l.length hm rfl rfl HE.out rfl rfl (by omega) (by omega) ?_;clear hm;intro w g8 hm)))
 have hm0:Own w0 w ((g8,J .u8 (txt l.length []))::(g7,J .i64 (tab (l.length+1) (rowsOf l index)))::rs) ss:=by
  rw [A17] at hm
  rw [txt]
  simpa [J,B] using hm
 clear hm
 have hm:=hm0
 clear hm0
 go_loopw [9,10] (fun z u wr=>∃ (k r:Nat) (acc:List Int),k+acc.length=l.length/\r<=l.length/\u=.int .i64 ((k:Int) - 1)/\z=.int .i64 r/\o=bwk l index k r acc/\Own w0 wr ((g8,J .u8 (txt l.length acc))::(g7,J .i64 (tab (l.length+1) (rowsOf l index)))::rs) ss) (fun _ u _=>(intOf u+1).toNat)
 case atStart=>exact ⟨l.length,0,[],by simp,by omega,rfl,rfl,HO.out,hm⟩
 case round =>
  clear hm
  obtain ⟨k,r,acc,hk,hr,rfl,rfl,ho,hm⟩:=hrel
  rcases k with _|k
  ·have q5:decide ((0:Int)<=((0:Nat):Int) - 1)=false:=by decide
   rw [bwk] at ho
   by_cases he:r=index
   ·subst he
    rw [if_pos rfl] at ho
    subst ho
    have hla:acc.length=l.length:=by omega
    have HT:Hid (txt l.length acc=acc):=Lib.hid (by rw [txt,hla];simp)
    rw [HT.out] at hm
    have HLA:=Lib.hid hla
    clear hla
    go_wp2
    go_ret2
    exact ⟨g8,HLA.out,rfl,hm.sub (List.Sublist.cons_cons _ (List.sublist_cons_self _ _)) (List.Sublist.refl _)⟩
   ·have q6:((r:Int) == index)=false:=by simp;omega
    have q7:((r:Int) != index)=true:=by simp;omega
    rw [if_neg he] at ho
    subst ho
    clear he
    go_wp2
    go_ret2
    exact ⟨rfl,hm.dropRow.dropRow⟩
  ·have q5:decide ((0:Int)<=((k+1:Nat):Int) - 1)=true:=decide_eq_true (by omega)
   have wk:IntKind.i64.wrap (((k+1:Nat):Int) - 1 - 1)=(k:Int) - 1:=by rw [IntWalk.i64_in _ (by omega)];omega
   have ek:((k+1:Nat):Int) - 1=(k:Int):=by omega
   rw [ek] at q5 wk ⊢
   rw [bwk] at ho
   have CP:=Lib.hid (fun w=>Vf ad cp l.length index r w h2 hr (by omega))
   by_cases he:r=index
   ·rw [if_pos he] at ho CP
    subst ho
    clear he
    go_wp2_with (first
     |(go_at_call 72;refine (CP.out _).mono ?_;rintro e w1 ⟨rfl,rfl⟩))
    go_ret2
    exact ⟨rfl,hm.dropRow.dropRow⟩
   ·rw [if_neg he] at ho CP
    obtain ⟨p,hp⟩:∃ p,p=Iw index r:=⟨_,rfl⟩
    have hpl:p < l.length:=by rw [hp];exact A0z h1 h2 hr he
    have hab:=oI HB.out p hpl
    rw [<- hp] at ho CP
    obtain ⟨A,rfl,hA0⟩:=HC.out _ hm.dropRow.dropRow p hpl
    have hA:∀ W,Own w0 W rs ss->W.cell? (A.add p)=some (.int .u8 (gi l p)):=fun W h=>by
     obtain ⟨A2,he,h2⟩:=HC.out W h p hpl
     cases he
     exact h2
    have hrl:r < l.length+1:=by omega
    have hkl:k < l.length:=by omega
    have HG:Hid ((J .i64 (tab (l.length+1) (rowsOf l index)))[r]?=some (.int .i64 ((aft l p).toNat:Nat))):=Lib.hid (by rw [PU .i64 _ hrl,rowsOf,if_neg he,<- hp,Int.toNat_of_nonneg (by omega)])
    have HG0:Hid ((J .i64 (tab (l.length+1) (rowsOf l index)))[0+r]?=some (.int .i64 ((aft l p).toNat:Nat))):=Lib.hid (by rw [Nat.zero_add];exact HG.out)
    have HP:Hid ((J .u8 (txt l.length acc)).setIfInBounds k (.int .u8 (gi l p))=J .u8 (txt l.length (gi l p::acc))):=Lib.hid (by rw [Y0,<- zi _ (by omega),show l.length - acc.length - 1=k by omega])
    have HP0:Hid ((J .u8 (txt l.length acc)).setIfInBounds (0+k) (.int .u8 (gi l p))=J .u8 (txt l.length (gi l p::acc))):=Lib.hid (by rw [Nat.zero_add];exact HP.out)
    have HZ:Hid (k < (J .u8 (txt l.length acc)).size):=Lib.hid (by rw [Df,A0c (by omega)];exact hkl)
    have HZ0:Hid (0+k < (J .u8 (txt l.length acc)).size):=Lib.hid (by rw [Nat.zero_add];exact HZ.out)
    have hra:(aft l p).toNat<=l.length:=by omega
    have HN:=Lib.hid ho
    clear hA0 hab hp he ho
    generalize (aft l p).toNat=r2 at *
    generalize gi l p=x at *
    generalize tab (l.length+1) (rowsOf l index)=U at *
    go_wp2_with (first
     |(go_at_call 72;refine (CP.out _).mono ?_;rintro e w1 ⟨rfl,rfl⟩)
     |(with_reducible refine gIa (t:=22) ?_;(first|(refine A8 rfl (Am rfl HE.out rfl rfl rfl hpl) ?_)|(refine A8 rfl (ix1 (k:=k) rfl HF.out rfl rfl rfl hkl) ?_)))
     |(with_reducible refine gIa (t:=124) ?_;(refine A8 rfl (ix1 (k:=r) rfl HF1.out rfl rfl rfl hrl) ?_))
     |(with_reducible refine gLd (t:=5) ?_;(refine A8 rfl (AU rfl rfl FV (hA _ hm.dropRow.dropRow)) ?_))
     |(with_reducible refine gLd (t:=3) ?_;(refine A8 rfl (ld 1 hm rfl rfl rfl (ot rfl) (by first|exact HG.out|exact HG0.out)) ?_))
     |(with_reducible refine gSt (t:=5) ?_;(refine Ad rfl (AZ 0 hm rfl rfl (Ac rfl) rfl (ot rfl) (by first|exact HZ.out|exact HZ0.out) rfl rfl (by first|exact HP.out|exact HP0.out) ?_);clear hm;intro w hm;try simp only [puts,s2,List.set] at hm)))
    go_roundw
    case rel=>exact ⟨k,r2,x::acc,by rw [List.length_cons];omega,hra,rfl,rfl,HN.out,hm⟩
    case measure=>simp [intOf]
set_option maxHeartbeats 1000000
set_option maxRecDepth 100000
theorem Ua {l:List Int} (h:∀ i,i < l.length->gi l i ≠ 1):l.any (fun y=>decide (y=1))=false:=by
 rw [List.any_eq_false]
 intro y hy
 obtain ⟨i,hi,rfl⟩:=List.getElem_of_mem hy
 have:=h i hi
 rw [BZ l i hi] at this
 simpa using this
theorem Wh {l:List Int} {k:Nat} (hk:k < l.length) (h:gi l k=1):l.any (fun y=>decide (y=1))=true:=by
 rw [List.any_eq_true]
 exact ⟨gi l k,by rw [BZ l k hk];exact List.getElem_mem _,by simpa using h⟩
theorem dU (v:Value) (l:List Int) (w:World) (hv:In .i64 w v l) (hn:l.length<=1000000):Calls Tryz.prog 145 #[v,.int .i64 1] w fun x w'=>(∃ r,x=.returned (.int .i64 r)/\decide (0<=r)=l.any (fun y=>decide (y=1)))/\Below w.heap.size w w':=by
 obtain ⟨ad,cp,rfl,hc⟩:=hv
 obtain ⟨i3,hE⟩:=nR
 have HE:=Lib.hid hE
 have HC:=Lib.hid hc
 clear hE hc
 go_enter Tryz.func145,Tryz.ntmps145
 have hm:=Own.nil w
 go_wp2
 go_loopw [8] (fun u wr=>∃ k:Nat,k<=l.length/\u=.int .i64 k/\(∀ i,i < k->gi l i ≠ 1)/\Own w wr [] []) (fun u _=>l.length - (intOf u).toNat)
 case atStart=>exact ⟨0,by omega,rfl,fun i hi=>by omega,hm⟩
 case round =>
  clear hm
  obtain ⟨k,hk,rfl,hj,hm⟩:=hrel
  by_cases hlt:k < l.length
  ·obtain ⟨A,rfl,hA0⟩:=HC.out k hlt
   have HA:Hid (∀ W,Below w.heap.size w W->W.cell? (A.add k)=some (.int .i64 (gi l k))):=Lib.hid fun W h=>(h.cell (block_lt_of_cell hA0)).trans hA0
   have HJ:=Lib.hid hj
   clear hA0 hj
   by_cases h1:gi l k=1
   ·have HR:=Lib.hid (Wh hlt h1)
    rw [h1] at HA
    go_wp2_with (first
     |(with_reducible refine gIa (t:=124) ?_;(refine A8 rfl (Am rfl HE.out rfl rfl rfl hlt) ?_))
     |(with_reducible refine gLd (t:=3) ?_;(refine A8 rfl (AU rfl rfl BG (HA.out _ hm.below)) ?_)))
    go_ret
    refine ⟨⟨_,rfl,?_⟩,hm.below⟩
    rw [HR.out]
    exact decide_eq_true (by omega)
   ·have HN:=Lib.hid h1
    have q1:((1:Int) == gi l k)=false:=by simpa using fun e=>h1 e.symm
    generalize hx:gi l k=x at *
    clear h1
    go_wp2_with (first
     |(with_reducible refine gIa (t:=124) ?_;(refine A8 rfl (Am rfl HE.out rfl rfl rfl hlt) ?_))
     |(with_reducible refine gLd (t:=3) ?_;(refine A8 rfl (AU rfl rfl BG (HA.out _ hm.below)) ?_)))
    go_roundw
    case rel=>exact ⟨k+1,by omega,by go_num,fun i hi=>by
     by_cases e:i=k
     ·subst e;rw [hx];exact HN.out
     ·exact HJ.out i (by omega),hm⟩
    case measure=>simp [intOf];omega
  ·obtain rfl:l.length=k:=by omega
   have HR:=Lib.hid (Ua hj)
   clear hj
   go_wp2
   go_ret
   exact ⟨⟨_,rfl,by rw [HR.out];rfl⟩,hm.below⟩
theorem UZ (v:Value) (l:List Int) (w:World) (hv:In .i64 w v l) (hn:l.length<=1000000):Calls Tryz.prog 105 #[v,.int .i64 1] w (RB w (.bool (l.any (fun y=>decide (y=1))))):=by
 have CI:=Lib.hid (dU v l w hv hn)
 go_enter Tryz.func105,Tryz.ntmps105
 have hm:=Own.nil w
 go_wp2_with (first
 |(go_at_call 145;have _t:=hm;refine CI.out.mono ?_;rintro e w1 ⟨⟨r,rfl,hr⟩,hb⟩;replace hm:=hm.call hb;clear hb))
 go_ret
 exact ⟨by rw [<- hr];rfl,hm.below⟩
theorem ZJ (v:Value) (l:List Int) (w0 w:World) (rs:Rws) (ss:List Sl) (hm:Own w0 w rs ss) (hv:∀ W,Own w0 W rs ss->Src W v (vs .u8 l)) (hn:l.length<=100000) (h0:0 < l.length):Calls Tryz.prog 106 #[v] w fun x w'=>∃ X v,x=.returned v/\Lies 1 X v l.length (vs .u8 l.reverse)/\Own w0 w' (X++rs) ss:=by
 have CC:Hid (∀ W,Own w0 W rs ss->Calls Tryz.prog 99 #[v] W fun x w'=>∃ g p c cells,x=.returned (.slice (some ⟨g,p,none⟩) l.length c)/\Lies 1 [(g,cells)] (.slice (some ⟨g,p,none⟩) l.length c) l.length (vs .u8 l)/\Own w0 w' ((g,cells)::rs) ss):=Lib.hid fun W h=>by
  refine (clone_any v l W (hv W h) (by omega)).mono fun x w' hx=>?_
  obtain ⟨X,v2,rfl,hX,hm⟩:=h.ofB hx
  have hX2:=hX
  obtain ⟨g,p,c,cells,rfl,rfl,_⟩:=hX.pos h0
  exact ⟨g,p,c,cells,rfl,hX2,hm⟩
 have CR:Hid (∀ W g p c cells,Lies 1 [(g,cells)] (.slice (some ⟨g,p,none⟩) l.length c) l.length (vs .u8 l)->Own w0 W ((g,cells)::rs) ss->Calls Tryz.prog 146 #[.slice (some ⟨g,p,none⟩) l.length c] W (kG w0 (.slice (some ⟨g,p,none⟩) l.length c) l rs ss)):=Lib.hid fun W g p c cells hX h=>WR g p c cells l w0 W rs ss h hX (by omega) h0
 clear hv
 go_enter Tryz.func106,Tryz.ntmps106
 go_wp2_with (first
 |(go_at_call 99;have _t:=hm;refine (CC.out _ hm).mono ?_;clear _t hm;rintro e w1 ⟨g,p,c,cells,rfl,hX,hm⟩)
 |(go_at_call 146;have _t:=hm;refine (CR.out _ _ _ _ _ hX hm).mono ?_;clear _t hm;rintro e w1 ⟨⟨u,rfl⟩,X2,hX2,hm⟩))
 go_ret
 exact ⟨X2,_,rfl,hX2,hm⟩
set_option maxHeartbeats 1000000
set_option maxRecDepth 100000
structure RkOk (live:Int) (a n b m d:Nat):Prop where
 n1:1<=n
 n2:n<=65536
 d1:1<=d
 d2:d<=65536
 ap:a+n<=b
 fit:(b:Int)+m<=live
 big:1024 * (n / d)<=m
 lim:live<=1048576
theorem lD (ga:Nat) (dv:Value) (live peak:Int) (a n b m d:Nat) (h:RkOk live a n b m d) (w0:World) (hr:AA w0 ga (AR dv live peak)):Calls Tryz.prog 118 #[.pointer (some ⟨ga,0,none⟩),.agg (SP a n),.agg (SP b m),.int .i64 d] w0 (RB w0 (.bool true)):=by
 obtain ⟨n1,n2,d1,d2,ap,fit,big,lim⟩:=h
 have CH:Hid (∀ W (x y:Nat),(x=a/\y=n\/x=b/\y=m)->Below w0.heap.size w0 W->Calls Tryz.prog 64 #[.pointer (some ⟨ga,0,none⟩),.agg (SP x y)] W fun e w'=>(e=.returned (.bool true))/\Below W.heap.size W w'):=Lib.hid fun W x y hxy h=>vZ ga dv live peak x y W (hr.keep W h) (by omega) (by omega) (by omega) lim
 have CA:=Lib.hid (fun w=>lN a n b m n1 ap (by omega) w)
 obtain ⟨q,hq⟩:∃ q:Nat,q=n / d:=⟨_,rfl⟩
 have CS:=Lib.hid (fun w=>sF n d q hq n2 d1 d2 w)
 rw [<- hq] at big
 have w1:wi n 1 65536=true:=Eu (by omega) (by omega)
 have w2:wi d 1 65536=true:=Eu (by omega) (by omega)
 have q1:decide (((1024 * q:Nat):Int)<=m)=true:=decide_eq_true (by omega)
 have q3:decide (1024 * (q:Int)<=m)=true:=decide_eq_true (by omega)
 have q2:decide (1024 * q<=m)=true:=decide_eq_true big
 clear hr n1 n2 d1 d2 ap fit lim hq big
 go_enter Tryz.func118,Tryz.ntmps118
 have hm:=Own.nil w0
 go_upto_region 3 with (first
  |(go_at_call 64;refine cB (CH.out _ _ _ (by first|exact .inl ⟨rfl,rfl⟩|exact .inr ⟨rfl,rfl⟩) hm.below) hm ?_;clear hm;intro w1 hm)
  |(go_at_call 119;refine (QK _ _ _ _).mono ?_;rintro e w1 ⟨rfl,rfl⟩)
  |(with_reducible refine wb hm ?_;clear hm;intro w g hm)
  |(with_reducible (first|refine wl 3 0 hm ?_ (hv:=(by with_unfolding_all (first|exact (SP0 _ _)|exact (SP1 _ _))))|refine wl 3 1 hm ?_ (hv:=(by with_unfolding_all (first|exact (SP0 _ _)|exact (SP1 _ _))))))
  |(with_reducible (first|refine wla 50 0 hm ?_ (ht:=(by with_unfolding_all exact Eo _ _))|refine wla 50 1 hm ?_ (ht:=(by with_unfolding_all exact Eo _ _)))))
 refine rO hm 13 (.rds [(0,true),(1,true)] (.one 2 (.rds [(3,false),(4,false),(5,true),(6,false),(7,true),(8,false)] (.one 9 (.rds [(10,false),(11,false),(12,false)] .done))))) ?_
 clear hm
 intro w hm
 simp only [KT.rds]
 refine km (fun W hm=>lda 1 hm rfl rfl rfl (Eo _ _)) ?_
 refine km (fun W hm=>lda 0 hm rfl rfl rfl (Eo _ _)) ?_
 refine DJ rfl rfl (fun K hK=>?_)
 go_simp
 refine (CA.out _).mono ?_
 rintro e w1 ⟨rfl,hb⟩
 replace hm:=hm.call hb
 clear hb
 refine hK _ _ ⟨fun W=>Own _ W _ _,fun _ h=>h,hm,?_⟩
 clear hK K
 try simp only [Act.put,s3]
 refine kq ?_
 (first|refine kq ?_|(refine Bz rfl rfl ?_))
 try simp only [Act.put,s3]
 (first|(refine K_m rfl rfl (fun W hm=>ld 0 hm rfl rfl rfl (ot rfl) (SP1 _ _)) ?_)|(refine D6 rfl rfl ?_))
 try simp only [Act.put,s3]
 (first|refine kq ?_|(refine Bz rfl rfl ?_))
 try simp only [Act.put,s3]
 (first|(refine K_m rfl rfl (fun W hm=>ld 1 hm rfl rfl rfl (ot rfl) (SP1 _ _)) ?_)|(refine D6 rfl rfl ?_))
 try simp only [Act.put,s3]
 (first|refine kq ?_|(refine Bz rfl rfl ?_))
 try simp only [Act.put,s3]
 refine DJ rfl rfl (fun K hK=>?_)
 go_simp
 refine (CS.out _).mono ?_
 rintro e w1 ⟨rfl,rfl⟩
 refine hK _ _ ⟨fun W=>Own _ W _ _,fun _ h=>h,hm,?_⟩
 clear hK K
 try simp only [Act.put,s3]
 (first|refine kq ?_|(refine Bz rfl rfl ?_))
 try simp only [Act.put,s3]
 iterate 2 refine kq ?_
 refine Ba ?_
 go_simp
 go_wp2
 go_ret
 exact ⟨rfl,hm.below⟩
set_option maxHeartbeats 400000
theorem Lies.zu {k:IntKind} {X:Rws} {v:Value} {l:List Int} (h:Lies 1 X v l.length (vs k l)) {w0 w:World} {A:Rws} {ss:List Sl} (hm:Own w0 w (A++X) ss):In k w v l:=by
 have hf:=h.from (A:=A) (rs:=[]) (by rw [List.append_nil];exact hm)
 obtain ⟨h1,⟨rfl,h2,h3⟩|⟨ad,c,rfl,hc⟩⟩:=hf
 ·have hl0:l.length=0:=h2
  exact ⟨none,0,by rw [hl0],fun i hi=>by omega⟩
 ·exact ⟨some ad,c,rfl,fun i hi=>⟨ad,rfl,hc i _ (Fg k l i hi)⟩⟩
end Go.Proofs.YtkpbhdhkdonghaaGreat
