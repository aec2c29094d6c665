/-
  Part 13 of the proof.
-/
import Derived.Test.YtkpbhdhkdonghaaGreatE10
import Derived.Test.YtkpbhdhkdonghaaGreatE11
import Derived.Test.YtkpbhdhkdonghaaGreatE12
set_option linter.all false
namespace Go.Proofs.YtkpbhdhkdonghaaGreat
open Go Go.RowKit
theorem Rk {k n d:Int} (h:turn k n d=true) (d0:0<=d) (d1:d<=2):d=0/\k=n\/d=1/\k < n\/d=2/\n < k:=by
 have:d=0\/d=1\/d=2:=by omega
 rcases this with rfl|rfl|rfl<;>simp [turn] at h<;>omega
theorem dK (t:TT) (h:t.ok) (w:World):Calls Tryz.prog 167 #[.agg t.v] w (RB w (.bool true)):=by
 obtain ⟨l,s,b,n,d⟩:=t
 obtain ⟨hl,hs,hb,hn,hd,hk,hf,hz1,hz2,ht⟩:=h
 simp only [TT.v] at *
 by_cases h4:b < 4
 ·obtain ⟨rfl,rfl,rfl,hp⟩:=hf h4
  exact XQ b n w (by omega) hn.1 hp
 by_cases h0:s=0
 ·have:d=0\/d=1\/d=2:=by omega
  rcases this with rfl|rfl|rfl
  ·exact qJ l s b n _ w hl (by omega) h0 hn.1 hn.2 hk rfl
  ·exact qI l s b n _ w hl (by omega) h0 hn.1 hn.2 hk rfl (hz1 h0 rfl)
  ·exact qH l s b n _ w hl (by omega) h0 hn.1 hn.2 hk rfl (hz2 h0 rfl)
 ·obtain ⟨k,rfl⟩:∃ k:Nat,s=(k:Int)+1:=⟨(s - 1).toNat,by omega⟩
  have ht:=ht (by omega)
  rw [show ((k:Int)+1).toNat - 1=k by omega] at ht
  exact kP l k b n d w hl (by omega) (by omega) hn.1 hn.2 hd (by exact_mod_cast hk) ht
theorem SS (t:TT) (bit:Int) (h:t.ok) (h0:0<=bit) (h1:bit<=1) (w:World):Calls Tryz.prog 144 #[.agg t.v,.int .i64 bit] w (RB w (.tuple #[.agg (t.next bit).1.v,.bool (t.next bit).2])):=by
 obtain ⟨l,s,b,n,d⟩:=t
 obtain ⟨hl,hs,hb,hn,hd,hk,hf,hz1,hz2,ht⟩:=h
 simp only [TT.v,TT.next] at *
 by_cases h4:b < 4
 ·rw [if_pos h4]
  exact dH l s b n d bit w hl (by omega) hn.1 hn.2 h0 h1
 rw [if_neg h4]
 have hbit:bit=0\/bit=1:=by omega
 by_cases h5:b=4
 ·subst h5
  rw [if_pos rfl]
  rcases hbit with rfl|rfl
  ·rw [if_pos rfl]
   obtain ⟨k,rfl⟩:∃ k:Nat,s=(k:Int):=⟨s.toNat,by omega⟩
   rw [Int.toNat_natCast]
   by_cases hl1:k+1 < 258
   ·have e:decide ((k:Int)+1 < 258)=true:=decide_eq_true (by omega)
    rw [e,Bool.true_or]
    exact uo l k n d w hl (by omega) hn.1 hn.2 hl1
   ·have e:decide ((k:Int)+1 < 258)=false:=decide_eq_false (by omega)
    rw [e,Bool.false_or]
    refine mD l k n d w hl (by omega) hn.1 hn.2 (fun x hx=>?_) (by omega)
    obtain ⟨i,hi,rfl⟩:=List.mem_iff_getElem.1 hx
    have:=hk i (by omega)
    rw [BZ l i hi] at this
    omega
  ·rw [if_neg (by decide)]
   exact mg l s 4 n d 1 w hl rfl rfl
 ·rw [if_neg h5]
  rcases hbit with rfl|rfl
  ·rw [if_pos rfl]
   exact A0b l s b n d 0 w hl (by omega) rfl hn.1 hn.2
  ·rw [if_neg (by decide)]
   exact mF l s b n d 1 w hl (by omega) rfl hn.1 hn.2
theorem kR (x:Int):turn x x 0=true:=by simp [turn]
theorem DY {l:List Int} {i j:Nat} {x:Int} (h:i < l.length):gi (l.set i x) j=if j=i then x else gi l j:=by
 simp only [gi,List.getD,List.getElem?_set]
 by_cases e:i=j
 ·subst e;simp [h]
 ·rw [if_neg e,if_neg (fun h=>e h.symm)]
theorem TT.ok.next {t:TT} {bit:Int} (h:t.ok) (h0:0<=bit) (h1:bit<=1) (hk:(t.next bit).2=true):(t.next bit).1.s < 258/\(t.next bit).1.ok\/(t.next bit).1.s=258/\(t.next bit).1.l.length=258/\Bytes (t.next bit).1.l/\JL (t.next bit).1.l=true:=by
 obtain ⟨l,s,b,n,d⟩:=t
 obtain ⟨hl,hs,hb,hn,hd,hkn,hf,hz1,hz2,ht⟩:=h
 simp only [TT.next] at *
 have hbit:bit=0\/bit=1:=by omega
 by_cases h4:b < 4
 ·rw [if_pos h4] at hk ⊢
  obtain ⟨rfl,rfl,rfl,hp⟩:=hf h4
  refine .inl ⟨by show (0:Int) < 258;omega,hl,hs,?_,?_,hd,hkn,?_,?_,?_,?_⟩
  ·simp only;omega
  ·have:b=0\/b=1\/b=2\/b=3:=by omega
   rcases this with rfl|rfl|rfl|rfl<;>simp at hp ⊢<;>omega
  ·intro _
   refine ⟨rfl,rfl,rfl,?_⟩
   have:b=0\/b=1\/b=2\/b=3:=by omega
   rcases this with rfl|rfl|rfl|rfl<;>simp at hp ⊢<;>omega
  ·intro _ h;simp at h
  ·intro _ h;simp at h
  ·intro h;simp at h
 rw [if_neg h4] at hk ⊢
 by_cases h5:b=4
 ·subst h5
  rw [if_pos rfl] at hk ⊢
  rcases hbit with rfl|rfl
  ·rw [if_pos rfl] at hk ⊢
   obtain ⟨k,rfl⟩:∃ k:Nat,s=(k:Int):=⟨s.toNat,by omega⟩
   rw [Int.toNat_natCast] at hk ⊢
   have hkl:k < l.length:=by omega
   have hK:Known (l.set k n) ((k:Int)+1):=by
    intro j hj
    rw [DY hkl]
    have:=hkn j hj
    by_cases e:j=k
    ·rw [if_pos e];omega
    ·rw [if_neg e];omega
   have hB:Bytes (l.set k n):=by
    intro x hx
    obtain ⟨i,hi,rfl⟩:=List.mem_iff_getElem.1 hx
    rw [List.length_set] at hi
    have:=hK i (by omega)
    rw [BZ _ i (by rw [List.length_set];exact hi)] at this
    omega
   by_cases hl1:k+1 < 258
   ·refine .inl ⟨by show (k:Int)+1 < 258;omega,by simp [hl],by simp only;omega,by simp,hn,by simp,hK,?_,?_,?_,?_⟩
    ·intro h;simp at h
    ·intro _ h;simp at h
    ·intro _ h;simp at h
    ·intro _
     simp only
     rw [show ((k:Int)+1).toNat - 1=k by omega,DY hkl,if_pos rfl]
     exact kR n
   ·have e:decide ((k:Int)+1 < 258)=false:=decide_eq_false (by omega)
    rw [e,Bool.false_or] at hk
    exact .inr ⟨by show (k:Int)+1=258;omega,by simp [hl],hB,hk⟩
  ·rw [if_neg (by decide)] at hk ⊢
   exact .inl ⟨hs.2,hl,hs,by simp,hn,hd,hkn,fun h=>by simp at h,hz1,hz2,ht⟩
 ·rw [if_neg h5] at hk ⊢
  rcases hbit with rfl|rfl
  ·rw [if_pos rfl] at hk ⊢
   have hk:=of_decide_eq_true hk
   refine .inl ⟨hs.2,hl,hs,by simp,by simp only;omega,by simp,hkn,fun h=>by simp at h,?_,?_,?_⟩
   ·intro _ _;simp only;omega
   ·intro _ h;simp at h
   ·intro hp
    have:=Rk (ht hp) hd.1 hd.2
    have hlt:gi l (s.toNat - 1) < n+1:=by omega
    exact decide_eq_true hlt
  ·rw [if_neg (by decide)] at hk ⊢
   have hk:=of_decide_eq_true hk
   refine .inl ⟨hs.2,hl,hs,by simp,by simp only;omega,by simp,hkn,fun h=>by simp at h,?_,?_,?_⟩
   ·intro _ h;simp at h
   ·intro _ _;simp only;omega
   ·intro hp
    have:=Rk (ht hp) hd.1 hd.2
    have hlt:n - 1 < gi l (s.toNat - 1):=by omega
    exact decide_eq_true hlt
def TT0:TT:=⟨Hf,0,0,0,0⟩
theorem dO (s:Int):Known Hf s:=fun k hk=>by
 have:gi Hf k=0:=by rw [BZ Hf k (by rw [Az];exact hk)];exact uU (List.getElem_mem _)
 omega
theorem XK:TT0.ok:=⟨Az,by decide,by decide,by decide,by decide,dO 0,fun _=>⟨rfl,rfl,rfl,by decide⟩,fun _ h=>by simp [TT0] at h,fun _ h=>by simp [TT0] at h,fun h=>by simp [TT0] at h⟩
set_option maxHeartbeats 1000000
set_option maxRecDepth 100000
theorem dL (l:List Int) (s b n d bit:Int) (l2:List Int) (s2 b2 n2 d2:Int) (ok:Bool) (w0:World) (hl:l.length=258) (hl2:l2.length=258) (CV:Hid (∀ w,Calls Tryz.prog 167 #[.agg (TS l s b n d)] w (RB w (.bool true)))) (CN:Hid (∀ w,Calls Tryz.prog 144 #[.agg (TS l s b n d),.int .i64 bit] w (RB w (.tuple #[.agg (TS l2 s2 b2 n2 d2),.bool ok])))) (hs:s < 258) (hbit:bit=0\/bit=1) (hok:ok=false):Calls Tryz.prog 126 #[.agg (TS l s b n d),.int .i64 bit] w0 (fun e w'=>(e=.returned (.tuple #[.agg (TS Hf 0 0 0 0),.bool (false),.int .i64 100]))/\Below w0.heap.size w0 w'):=by
 have HL:=Lib.hid hl
 have HM:=Lib.hid hl2
 have q1:(s == 258)=false:=by simp;omega
 have q2:bit / 2=0:=by omega
 clear hl hl2 hs
 subst hok
 rcases hbit with rfl|rfl
 all_goals
  go_enter Tryz.func126,Tryz.ntmps126
  have hm:=Own.nil w0
  go_wp2_with (first
   |(go_at_call 167;refine cB (CV.out _) hm ?_;clear hm;intro w1 hm)
   |(go_at_call 144;refine cB (CN.out _) hm ?_;clear hm;intro w1 hm)
   |(with_reducible refine wb hm ?_;clear hm;intro w g hm)
   |(with_reducible refine gAl ?_;(with_reducible refine wa _ hm Jz ?_;clear hm;intro w g2 hm))
   |(with_reducible refine wl 3 1 hm ?_ (hv:=(by with_unfolding_all exact (CJ HL.out))))
   |(with_reducible refine wla 141 1 hm ?_ (ht:=(by with_unfolding_all exact Bq HL.out)))
   |(with_reducible refine wla 141 0 hm ?_ (ht:=(by with_unfolding_all exact Bq Az)))
   |(with_reducible (first|refine ws 141 1 hm ?_ (ht:=(by with_unfolding_all exact Bq HM.out)) (hs:=(by with_unfolding_all exact Ce HM.out HL.out)) (h1:=(by with_unfolding_all exact Di _ _ _ _ _))|refine ws 141 0 hm ?_ (ht:=(by with_unfolding_all exact Bq Az)) (h1:=(by with_unfolding_all exact Di _ _ _ _ _)));clear hm;intro w hm))
  refine bodyPost_ret (Ae rfl rfl (hm.row 0 rfl) (Bq Az)) rfl ⟨rfl,hm.below⟩
theorem mV (l:List Int) (s b n d bit:Int) (l2:List Int) (s2 b2 n2 d2:Int) (ok:Bool) (w0:World) (hl:l.length=258) (hl2:l2.length=258) (CV:Hid (∀ w,Calls Tryz.prog 167 #[.agg (TS l s b n d)] w (RB w (.bool true)))) (CN:Hid (∀ w,Calls Tryz.prog 144 #[.agg (TS l s b n d),.int .i64 bit] w (RB w (.tuple #[.agg (TS l2 s2 b2 n2 d2),.bool ok])))) (hs:s < 258) (hbit:bit=0\/bit=1) (hok:ok=true):Calls Tryz.prog 126 #[.agg (TS l s b n d),.int .i64 bit] w0 (fun e w'=>(e=.returned (.tuple #[.agg (TS l2 s2 b2 n2 d2),.bool (s2 == 258),.int .i64 0]))/\Below w0.heap.size w0 w'):=by
 have HL:=Lib.hid hl
 have HM:=Lib.hid hl2
 have q1:(s == 258)=false:=by simp;omega
 have q2:bit / 2=0:=by omega
 clear hl hl2 hs
 subst hok
 rcases hbit with rfl|rfl
 all_goals
  go_enter Tryz.func126,Tryz.ntmps126
  have hm:=Own.nil w0
  go_upto_region 6 with (first
   |(go_at_call 167;refine cB (CV.out _) hm ?_;clear hm;intro w1 hm)
   |(go_at_call 144;refine cB (CN.out _) hm ?_;clear hm;intro w1 hm)
   |(with_reducible refine wb hm ?_;clear hm;intro w g hm)
   |(with_reducible refine gAl ?_;(with_reducible refine wa _ hm Jz ?_;clear hm;intro w g2 hm))
   |(with_reducible refine wl 3 1 hm ?_ (hv:=(by with_unfolding_all exact (CJ HL.out))))
   |(with_reducible refine wla 141 1 hm ?_ (ht:=(by with_unfolding_all exact Bq HL.out)))
   |(with_reducible refine ws 141 1 hm ?_ (ht:=(by with_unfolding_all exact Bq HM.out)) (hs:=(by with_unfolding_all exact Ce HM.out HL.out)) (h1:=(by with_unfolding_all exact Di _ _ _ _ _));clear hm;intro w hm))
  refine BQ hm 7 (.rds [(0,true),(1,false),(2,true),(3,false)] (.one 4 (.rds [(5,false),(6,false)] .done))) rfl (by kernel_rfl) rfl (by kernel_rfl) (fun _ _ d _ _ h=>by cases d<;>exact h) ?_
  clear hm
  intro w hm
  simp only [KT.rds]
  refine km (fun W hb=>have hm:=hb.own;lda 0 hm rfl rfl rfl (Bq HM.out)) ?_
  refine kq ?_
  refine km (fun W hb=>have hm:=hb.own;ld 0 hm rfl rfl rfl (ot rfl) (CJ HM.out)) ?_
  refine kq ?_
  (refine Bo rfl rfl (Aw 0 hm rfl rfl (Ac rfl) rfl (Bq HM.out) (Ce HM.out Az) (Di _ _ _ _ _) ?_))
  clear hm
  intro w hm
  try simp only [puts,s2,List.set,List.eraseIdx,s3] at hm
  refine ⟨But _ _ _ _,fun _ h=>h,But.mk hm,?_⟩
  try simp only [Act.put,s3]
  iterate 2 refine kq ?_
  refine Ba ?_
  go_simp
  go_wp2
  refine bodyPost_ret (Ae rfl rfl (hm.row 0 rfl) (Bq HM.out)) rfl ⟨rfl,hm.below⟩
set_option maxHeartbeats 2000000
set_option maxRecDepth 100000
theorem SK (t:TT) (bit:Int) (h:t.ok) (h0:0<=bit) (h1:bit<=1) (w:World):Calls Tryz.prog 126 #[.agg t.v,.int .i64 bit] w (RB w (if (t.next bit).2 then .tuple #[.agg (t.next bit).1.v,.bool ((t.next bit).1.s == 258),.int .i64 0] else .tuple #[.agg TT0.v,.bool false,.int .i64 100])):=by
 have CV:=Lib.hid (fun w=>dK t h w)
 have CN:=Lib.hid (fun w=>SS t bit h h0 h1 w)
 have hl2:(t.next bit).1.l.length=258:=by
  obtain ⟨l,s,b,n,d⟩:=t
  have:=h.len
  simp only [TT.next] at *
  split
  ·exact this
  ·split
   ·split
    ·rw [List.length_set];exact this
    ·exact this
   ·split<;>exact this
 generalize t.next bit=p at *
 obtain ⟨t2,ok⟩:=p
 cases ok with
|true=>exact mV t.l t.s t.b t.n t.d bit t2.l t2.s t2.b t2.n t2.d true w h.len hl2 CV CN h.sym.2 (by omega) rfl
|false=>exact dL t.l t.s t.b t.n t.d bit t2.l t2.s t2.b t2.n t2.d false w h.len hl2 CV CN h.sym.2 (by omega) rfl
def Bv (t:TT):List Int->Int->List Int × Int × Int
|[],_=>(Hf,0,50)
|b::r,i=>if (t.next b).2 then if (t.next b).1.s=258 then ((t.next b).1.l,i+1,0) else Bv (t.next b).1 r (i+1) else (Hf,0,100)
def Bin (l:List Int):Prop:=∀ x ∈ l,0<=x/\x<=1
theorem Bin.gi {l:List Int} (h:Bin l) (k:Nat) (hk:k < l.length):0<=gi l k/\gi l k<=1:=h _ (by rw [BZ l k hk];exact List.getElem_mem _)
theorem aC (w:World):(zeroValue 139).run Tryz.prog w=.ok (.agg (J .u8 Hf)) w:=by kernel_rfl
theorem WC {m l:List Int} (h:l.length=258) (k:m.length=258):(J .u8 l).size=(J .u8 m).size:=by rw [Df,Df,h,k]
theorem SN (v:Value) (l:List Int) (w0:World) (hv:In .i64 w0 v l) (hb:Bin l) (hn:l.length<=10000000):Calls Tryz.prog 103 #[v] w0 (RB w0 (.tuple #[.agg (J .u8 (Bv TT0 l 0).1),.int .i64 (Bv TT0 l 0).2.1,.int .i64 (Bv TT0 l 0).2.2])):=by
 obtain ⟨ad,cp,rfl,hc⟩:=hv
 obtain ⟨i3,hE⟩:=nR
 have HE:=Lib.hid hE
 have HC:=Lib.hid hc
 have HB:=Lib.hid hb
 clear hE hc hb
 go_enter Tryz.func103,Tryz.ntmps103
 have hm:=Own.nil w0
 go_wp2_with (first
 |(with_reducible refine wa 139 hm aC ?_;clear hm;intro w g2 hm)
 |(with_reducible refine wa 141 hm Jz ?_;clear hm;intro w g5 hm))
 go_loopw [12] (fun u wr=>∃ (k:Nat) (t:TT),k<=l.length/\u=.int .i64 k/\t.ok/\Bv TT0 l 0=Bv t (l.drop k) k/\Own w0 wr [(g5,t.v),(g2,J .u8 Hf)] []) (fun u _=>l.length - (intOf u).toNat)
 case atStart=>exact ⟨0,TT0,by omega,rfl,XK,rfl,hm⟩
 case round =>
  clear hm
  obtain ⟨k,t,hk,rfl,ht,hR,hm⟩:=hrel
  by_cases hlt:k < l.length
  ·obtain ⟨A,rfl,hA0⟩:=HC.out k hlt
   have hA:∀ W,Below w0.heap.size w0 W->W.cell? (A.add k)=some (.int .i64 (gi l k)):=fun W h=>(h.cell (block_lt_of_cell hA0)).trans hA0
   have hs:=HB.out.gi k hlt
   rw [List.drop_eq_getElem_cons hlt,<- BZ l k hlt,Bv] at hR
   have CN:=Lib.hid (fun w=>SS t (gi l k) ht hs.1 hs.2 w)
   have hX:=ht.next hs.1 hs.2
   have hl2:(t.next (gi l k)).1.l.length=258:=by
    have:=ht.len
    simp only [TT.next]
    split
    ·exact this
    ·split
     ·split
      ·rw [List.length_set];exact this
      ·exact this
     ·split<;>exact this
   have q1:gi l k / 2=0:=by omega
   have HT:=Lib.hid ht.len
   have HR:=Lib.hid hR
   clear hA0 hR hs
   generalize gi l k=x at *
   generalize t.next x=p at *
   obtain ⟨t2,ok⟩:=p
   have HM:=Lib.hid hl2
   have HX:=Lib.hid hX
   clear hl2 hX ht
   obtain ⟨l1,s1,b1,n1,d1⟩:=t
   obtain ⟨l2,s2,b2,n2,d2⟩:=t2
   simp only [TT.v] at *
   cases ok with
  |false =>
    have hR:=HR.out
    rw [if_neg (by simp)] at hR
    have HRR:=Lib.hid hR
    clear hR HR HX
    go_wp2_with (first
     |(go_at_call 144;refine cB (CN.out _) hm ?_;clear hm;intro w1 hm)
     |(with_reducible refine wa 141 hm Jz ?_;clear hm;intro w g8 hm)
     |(with_reducible refine gIa (t:=124) ?_;(refine A8 rfl (Am rfl HE.out rfl rfl rfl hlt) ?_))
     |(with_reducible refine gLd (t:=3) ?_;((refine A8 rfl (AU rfl rfl BG (hA _ hm.below)) ?_)))
     |(with_reducible refine wla 141 0 hm ?_ (ht:=(by with_unfolding_all exact (Bq HT.out))))
     |(with_reducible refine wla 139 2 hm ?_ (ht:=(by with_unfolding_all exact F5 Az)))
     |(with_reducible refine ws 141 0 hm ?_ (ht:=(by with_unfolding_all exact Bq HM.out)) (hs:=(by with_unfolding_all exact Ce HM.out Az)) (h1:=(by with_unfolding_all exact Di _ _ _ _ _));clear hm;intro w hm)
     |(with_reducible refine ws 139 2 hm ?_ (ht:=(by with_unfolding_all exact F5 Az)) (h1:=(by with_unfolding_all exact J_one _ _));clear hm;intro w hm))
    refine bodyPost_ret (Ae rfl rfl (hm.row 2 rfl) (F5 Az)) rfl ⟨by rw [HRR.out];rfl,hm.below⟩
  |true =>
    have hX:=HX.out rfl
    have hR:=HR.out
    rw [if_pos rfl] at hR
    clear HX HR
    by_cases he:s2=258
    ·subst he
     rw [if_pos rfl] at hR
     have HRR:=Lib.hid hR
     clear hR hX
     have w1:IntKind.i64.wrap ((k:Int)+1)=(k:Int)+1:=IntWalk.i64_in _ (by omega)
     go_wp2_with (first
      |(go_at_call 144;refine cB (CN.out _) hm ?_;clear hm;intro w1 hm)
      |(with_reducible refine wa 141 hm Jz ?_;clear hm;intro w g8 hm)
      |(with_reducible refine gIa (t:=124) ?_;(refine A8 rfl (Am rfl HE.out rfl rfl rfl hlt) ?_))
      |(with_reducible refine gLd (t:=3) ?_;(first|(refine A8 rfl (AU rfl rfl BG (hA _ hm.below)) ?_)|(refine A8 rfl (ld 1 hm rfl rfl rfl (ot rfl) (CJ HM.out)) ?_)))
      |(with_reducible refine wla 141 0 hm ?_ (ht:=(by with_unfolding_all (first|exact (Bq HT.out)|exact (Bq HM.out)))))
      |(with_reducible refine gLd (t:=139) ?_;((refine A8 rfl (ldp 1 hm rfl rfl rfl (Jv HM.out) (F5 HM.out) (L9 HM.out)) ?_)))
      |(with_reducible (first|refine ws 141 0 hm ?_ (ht:=(by with_unfolding_all exact Bq HM.out)) (hs:=(by with_unfolding_all exact Ce HM.out Az)) (h1:=(by with_unfolding_all exact Di _ _ _ _ _))|refine ws 141 1 hm ?_ (ht:=(by with_unfolding_all exact Bq HM.out)) (hs:=(by with_unfolding_all exact Ce HM.out HT.out)) (h1:=(by with_unfolding_all exact Di _ _ _ _ _)));clear hm;intro w hm)
      |(with_reducible refine ws 139 2 hm ?_ (ht:=(by with_unfolding_all exact F5 HM.out)) (hs:=(by with_unfolding_all exact WC HM.out Az)) (h1:=(by with_unfolding_all exact J_one _ _));clear hm;intro w hm))
     refine bodyPost_ret (Ae rfl rfl (hm.row 2 rfl) (F5 HM.out)) rfl ⟨by rw [HRR.out];rfl,hm.below⟩
    ·have q2:(s2 == 258)=false:=by simpa using he
     rw [if_neg he] at hR
     rcases hX with hX|hX
     ·have HX:=Lib.hid hX
      have HR:=Lib.hid hR
      clear hX hR he
      go_wp2_with (first
       |(go_at_call 144;refine cB (CN.out _) hm ?_;clear hm;intro w1 hm)
       |(with_reducible refine wa 141 hm Jz ?_;clear hm;intro w g8 hm)
       |(with_reducible refine gIa (t:=124) ?_;(refine A8 rfl (Am rfl HE.out rfl rfl rfl hlt) ?_))
       |(with_reducible refine gLd (t:=3) ?_;(first|(refine A8 rfl (AU rfl rfl BG (hA _ hm.below)) ?_)|(refine A8 rfl (ld 1 hm rfl rfl rfl (ot rfl) (CJ HM.out)) ?_)))
       |(with_reducible refine wla 141 0 hm ?_ (ht:=(by with_unfolding_all (first|exact (Bq HT.out)|exact (Bq HM.out)))))
       |(with_reducible (first|refine ws 141 0 hm ?_ (ht:=(by with_unfolding_all exact Bq HM.out)) (hs:=(by with_unfolding_all exact Ce HM.out Az)) (h1:=(by with_unfolding_all exact Di _ _ _ _ _))|refine ws 141 1 hm ?_ (ht:=(by with_unfolding_all exact Bq HM.out)) (hs:=(by with_unfolding_all exact Ce HM.out HT.out)) (h1:=(by with_unfolding_all exact Di _ _ _ _ _)));clear hm;intro w hm)
        )
      go_roundw
      case rel=>exact ⟨k+1,⟨l2,s2,b2,n2,d2⟩,by omega,by go_num,HX.out.2,HR.out,hm.dropRow⟩
      case measure=>simp [intOf];omega
     ·exact (he hX.1).elim
  ·obtain rfl:l.length=k:=by omega
   rw [List.drop_length,Bv] at hR
   have HRR:=Lib.hid hR
   clear hR
   go_wp2_with (first
    |(with_reducible refine wla 139 1 hm ?_ (ht:=(by with_unfolding_all exact F5 Az)))
    |(with_reducible refine ws 139 1 hm ?_ (ht:=(by with_unfolding_all exact F5 Az)) (h1:=(by with_unfolding_all exact J_one _ _));clear hm;intro w hm))
   refine bodyPost_ret (Ae rfl rfl (hm.row 1 rfl) (F5 Az)) rfl ⟨by rw [HRR.out];rfl,hm.below⟩
set_option maxHeartbeats 1000000
set_option maxRecDepth 100000
variable {a:Act} {ops:Array Oper} {Q:Exit->Act->World->Prop} {k m p s:Int} {t u:KT} {i j:Nat} {o:Oper} {x y:Operand} {P:Program} {w:World} {S:World->Prop}
theorem au (h1:wpK P ops Q (.one i t) S a w) (h2:wpK P ops Q (.one j u) S a w):wpK P ops Q (.two i t j u) S a w:=⟨h1,h2⟩
theorem FM (w:World):(zeroValue 88).run Tryz.prog w=.ok (.agg (MS 0 0 0 0 0 0 0)) w:=by kernel_rfl
theorem Gt (a V M m p s k:Int):Aq Tryz.prog 88 (MS a V M m p s k).size:=ag rfl
theorem EH (a V M m p s k:Int):∀ v ∈ MS a V M m p s k,v.oneCell'=true:=Dp (cs:=[.int .i64 a,.int .i64 V,.int .i64 M,.int .i64 m,.int .i64 p,.int .u32 s,.int .i64 k]) rfl
theorem JZ (a V M m p s k:Int):(MS a V M m p s k).size=7:=rfl
theorem Na (a V M m p s k a' V' M' m' p' s' k':Int):(MS a V M m p s k).size=(MS a' V' M' m' p' s' k').size:=rfl
theorem Ju:TT0.v.size=262:=Dy Az
theorem yj:Aq Tryz.prog 141 TT0.v.size:=Bq Az
theorem XJ:∀ v ∈ TT0.v,v.oneCell'=true:=Di _ _ _ _ _
theorem Gy (ho:o.op=.build 76 #[(0,x),(2,y)]) (hx:a.eval x=.int .u8 k) (hy:a.eval y=.agg #[.int .i64 m,.int .i64 p,.int .u32 s]):(execOp a.eval o).run Tryz.prog w=.ok (.value (.agg (EVT k 0 m p s (.slice none 0 0) 0))) w :=
 Dq ho (by simp only [List.map_toArray,List.map_cons,List.map_nil,hx,hy];kernel_rfl)
theorem Kr (ho:o.op=.build 141 #[]):(execOp a.eval o).run Tryz.prog w=.ok (.value (.agg TT0.v)) w :=
 Dq ho (by simp only [List.map_toArray,List.map_nil];kernel_rfl)
theorem uV (gp:Nat) (n a V M m p s k c a2 V2 M2 m2 p2 s2 k2:Int) (c0:0<=c) (c1:c<=255) (pr:Value) (pt ts cs ds er:Array Value) (RR:Rws) (w0 w:World) (ss:List Sl) (hm:Own w0 w ((gp,PR pt (HS 4 0 0 n) (MS a V M m p s k) ts cs ds er)::RR) ss) (Q:Rws->Prop) (CT:Hid (∀ W g,Own w0 W (g::(gp,PR pt (HS 4 0 0 n) (MS a V M m p s k) ts cs ds er)::RR) ss->Calls Tryz.prog 124 #[.pointer (some ⟨gp,0,none⟩),pr,.int .i64 8] W fun x w'=>(x=.returned (.tuple #[.int .u32 c,.agg (EVT 0 0 0 0 0 (.slice none 0 0) 0),.bool true]))/\∃ RR',Q RR'/\Own w0 w' (g::(gp,PR pt (HS 4 0 0 n) (MS a V M m p s k) ts cs ds er)::RR') ss)) (CS:Hid (∀ w,Calls Tryz.prog 101 #[.int .i64 n,.agg (MS a V M m p s k),.int .u8 c] w (RB w (.tuple #[.agg (MS a2 V2 M2 m2 p2 s2 k2),.bool false,.int .i64 0])))) (hz:PRz pt (HS 4 0 0 n) (MS a V M m p s k) ts cs ds er) :Calls Tryz.prog 80 #[.pointer (some ⟨gp,0,none⟩),pr] w fun x w'=>(x=.returned (.tuple #[.agg (EVT 0 0 0 0 0 (.slice none 0 0) 0),.bool false]))/\∃ RR',Q RR'/\Own w0 w' ((gp,PR pt (HS 4 0 0 n) (MS a2 V2 M2 m2 p2 s2 k2) ts cs ds er)::RR') ss:=by
 have HZ:=Lib.hid hz
 have w1:IntKind.u8.wrap c=c:=IntWalk.u8_in _ (by omega)
 clear hz c0 c1
 go_enter Tryz.func80,Tryz.ntmps80
 go_upto_region 4 with (first
  |(go_at_call 124;have _t:=hm;refine (CT.out _ _ hm).mono ?_;clear _t hm CT;rintro x w ⟨rfl,RR2,hQ,hm⟩)
  |(with_reducible refine wa 76 hm BX ?_;clear hm;intro w g hm)
  |(with_reducible refine ws 76 0 hm ?_ (h1:=(by with_unfolding_all exact Ak _ _ _ _ _ rfl _));clear hm;intro w hm)
   )
 refine rO hm 20 (.rds [(0,false),(1,false),(2,false),(3,false),(4,true),(5,false),(6,false),(7,false),(8,true),(9,false),(10,false)] (.two 11 (.rds [(12,false),(13,false),(14,false),(15,false)] (.one 16 (.one 17 (.rds [(18,false),(19,false)] .done)))) 16 (.one 11 (.rds [(12,false),(13,false),(14,false),(15,false)] (.one 17 (.rds [(18,false),(19,false)] .done)))))) ?_
 clear hm
 intro w hm
 simp only [KT.rds]
 iterate 4 refine kq ?_
 refine km (fun W hm=>ld 2 hm rfl rfl rfl (ot rfl) (OM HZ.out (i:=3) rfl)) ?_
 iterate 3 refine kq ?_
 refine km (fun W hm=>ldp 2 hm rfl rfl rfl (LQ HZ.out) (Gt _ _ _ _ _ _ _) (LW HZ.out)) ?_
 iterate 2 refine kq ?_
 refine au ?_ ?_
 ·refine DJ rfl rfl (fun K hK=>?_)
  go_simp
  refine (CS.out _).mono ?_
  rintro e w1 ⟨rfl,hb⟩
  replace hm:=hm.call hb
  clear hb
  refine hK _ _ ⟨fun W=>Own _ W _ _,fun _ h=>h,(by exact hm),?_⟩
  clear hK K
  iterate 4 refine kq ?_
  (refine Bo rfl rfl (Dl hm rfl FM ?_))
  clear hm
  intro w g9 hm
  refine ⟨fun W=>Own _ W _ _,fun _ h=>h,hm.dropRow,?_⟩
  try simp only [Act.put,s3]
  (refine Bo rfl rfl (Aw 0 hm rfl rfl (Ac rfl) rfl (Gt _ _ _ _ _ _ _) (Na _ _ _ _ _ _ _ _ _ _ _ _ _ _) (EH _ _ _ _ _ _ _) ?_))
  clear hm
  intro w hm
  try simp only [puts,s2,List.set,List.eraseIdx,s3] at hm
  refine ⟨fun W=>Own _ W _ _,fun _ h=>h,hm.dropRow,?_⟩
  try simp only [Act.put,s3]
  iterate 2 refine kq ?_
  refine Ba ?_
  go_simp
  go_wp2_with (first
   |(with_reducible refine gSt (t:=88) ?_;(refine Ad rfl (Aj 3 hm rfl rfl (Ac rfl) rfl (Gt _ _ _ _ _ _ _) (by rw [Bg HZ.out,JZ];decide) (EH _ _ _ _ _ _ _) (Gu HZ.out rfl) ?_);clear hm;intro w hm;try simp only [puts,s2,List.set] at hm))
   |(with_reducible refine wla 88 0 hm ?_)
   |(with_reducible refine ws 76 2 hm ?_ (h1:=(by with_unfolding_all exact Ak _ _ _ _ _ rfl _));clear hm;intro w hm)
   |(with_reducible refine wla 76 1 hm ?_))
  refine bodyPost_ret (Af rfl rfl (hm.row 2 rfl) (Dw _ _ _ _ _ _ _)) rfl ⟨rfl,RR2,hQ,hm.dropRow.dropRow.dropRow⟩
 ·(refine Bo rfl rfl (Dl hm rfl FM ?_))
  clear hm
  intro w g9 hm
  refine ⟨fun W=>Own _ W _ _,fun _ h=>h,hm.dropRow,?_⟩
  try simp only [Act.put,s3]
  refine DJ rfl rfl (fun K hK=>?_)
  go_simp
  refine (CS.out _).mono ?_
  rintro e w1 ⟨rfl,hb⟩
  replace hm:=hm.call hb
  clear hb
  refine hK _ _ ⟨fun W=>Own _ W _ _,fun _ h=>h,(by exact hm.dropRow),?_⟩
  clear hK K
  iterate 4 refine kq ?_
  (refine Bo rfl rfl (Aw 0 hm rfl rfl (Ac rfl) rfl (Gt _ _ _ _ _ _ _) (Na _ _ _ _ _ _ _ _ _ _ _ _ _ _) (EH _ _ _ _ _ _ _) ?_))
  clear hm
  intro w hm
  try simp only [puts,s2,List.set,List.eraseIdx,s3] at hm
  refine ⟨fun W=>Own _ W _ _,fun _ h=>h,hm.dropRow,?_⟩
  try simp only [Act.put,s3]
  iterate 2 refine kq ?_
  refine Ba ?_
  go_simp
  go_wp2_with (first
   |(with_reducible refine gSt (t:=88) ?_;(refine Ad rfl (Aj 3 hm rfl rfl (Ac rfl) rfl (Gt _ _ _ _ _ _ _) (by rw [Bg HZ.out,JZ];decide) (EH _ _ _ _ _ _ _) (Gu HZ.out rfl) ?_);clear hm;intro w hm;try simp only [puts,s2,List.set] at hm))
   |(with_reducible refine wla 88 0 hm ?_)
   |(with_reducible refine ws 76 2 hm ?_ (h1:=(by with_unfolding_all exact Ak _ _ _ _ _ rfl _));clear hm;intro w hm)
   |(with_reducible refine wla 76 1 hm ?_))
  refine bodyPost_ret (Af rfl rfl (hm.row 2 rfl) (Dw _ _ _ _ _ _ _)) rfl ⟨rfl,RR2,hQ,hm.dropRow.dropRow.dropRow⟩
theorem YK (gp:Nat) (n a V M m p s k c V2 M2 m2 p2 s2 k2:Int) (c0:0<=c) (c1:c<=255) (pr:Value) (pt ts cs ds er:Array Value) (RR:Rws) (w0 w:World) (ss:List Sl) (hm:Own w0 w ((gp,PR pt (HS 4 0 0 n) (MS a V M m p s k) ts cs ds er)::RR) ss) (Q:Rws->Prop) (CT:Hid (∀ W g,Own w0 W (g::(gp,PR pt (HS 4 0 0 n) (MS a V M m p s k) ts cs ds er)::RR) ss->Calls Tryz.prog 124 #[.pointer (some ⟨gp,0,none⟩),pr,.int .i64 8] W fun x w'=>(x=.returned (.tuple #[.int .u32 c,.agg (EVT 0 0 0 0 0 (.slice none 0 0) 0),.bool true]))/\∃ RR',Q RR'/\Own w0 w' (g::(gp,PR pt (HS 4 0 0 n) (MS a V M m p s k) ts cs ds er)::RR') ss)) (CS:Hid (∀ w,Calls Tryz.prog 101 #[.int .i64 n,.agg (MS a V M m p s k),.int .u8 c] w (RB w (.tuple #[.agg (MS 4 V2 M2 m2 p2 s2 k2),.bool true,.int .i64 0])))) (hz:PRz pt (HS 4 0 0 n) (MS a V M m p s k) ts cs ds er) :Calls Tryz.prog 80 #[.pointer (some ⟨gp,0,none⟩),pr] w fun x w'=>(x=.returned (.tuple #[.agg (EVT 3 0 m2 p2 s2 (.slice none 0 0) 0),.bool true]))/\∃ RR',Q RR'/\Own w0 w' ((gp,PR (PT 3) (HS 4 0 0 n) (MS 4 V2 M2 m2 p2 s2 k2) TT0.v cs ds er)::RR') ss:=by
 have HZ:=Lib.hid hz
 have w1:IntKind.u8.wrap c=c:=IntWalk.u8_in _ (by omega)
 clear hz c0 c1
 have HZ2:Hid (PRz pt (HS 4 0 0 n) (MS 4 V2 M2 m2 p2 s2 k2) ts cs ds er):=Lib.hid (HZ.out.ms_ rfl)
 have HZ3:Hid (PRz (PT 3) (HS 4 0 0 n) (MS 4 V2 M2 m2 p2 s2 k2) ts cs ds er):=Lib.hid (HZ2.out.pt_ rfl)
 go_enter Tryz.func80,Tryz.ntmps80
 go_upto_region 4 with (first
  |(go_at_call 124;have _t:=hm;refine (CT.out _ _ hm).mono ?_;clear _t hm CT;rintro x w ⟨rfl,RR2,hQ,hm⟩)
  |(with_reducible refine wa 76 hm BX ?_;clear hm;intro w g hm)
  |(with_reducible refine ws 76 0 hm ?_ (h1:=(by with_unfolding_all exact Ak _ _ _ _ _ rfl _));clear hm;intro w hm)
   )
 refine rO hm 20 (.rds [(0,false),(1,false),(2,false),(3,false),(4,true),(5,false),(6,false),(7,false),(8,true),(9,false),(10,false)] (.two 11 (.rds [(12,false),(13,false),(14,false),(15,false)] (.one 16 (.one 17 (.rds [(18,false),(19,false)] .done)))) 16 (.one 11 (.rds [(12,false),(13,false),(14,false),(15,false)] (.one 17 (.rds [(18,false),(19,false)] .done)))))) ?_
 clear hm
 intro w hm
 simp only [KT.rds]
 iterate 4 refine kq ?_
 refine km (fun W hm=>ld 2 hm rfl rfl rfl (ot rfl) (OM HZ.out (i:=3) rfl)) ?_
 iterate 3 refine kq ?_
 refine km (fun W hm=>ldp 2 hm rfl rfl rfl (LQ HZ.out) (Gt _ _ _ _ _ _ _) (LW HZ.out)) ?_
 iterate 2 refine kq ?_
 refine au ?_ ?_
 ·refine DJ rfl rfl (fun K hK=>?_)
  go_simp
  refine (CS.out _).mono ?_
  rintro e w1 ⟨rfl,hb⟩
  replace hm:=hm.call hb
  clear hb
  refine hK _ _ ⟨fun W=>Own _ W _ _,fun _ h=>h,(by exact hm),?_⟩
  clear hK K
  iterate 4 refine kq ?_
  (refine Bo rfl rfl (Dl hm rfl FM ?_))
  clear hm
  intro w g9 hm
  refine ⟨fun W=>Own _ W _ _,fun _ h=>h,hm.dropRow,?_⟩
  try simp only [Act.put,s3]
  (refine Bo rfl rfl (Aw 0 hm rfl rfl (Ac rfl) rfl (Gt _ _ _ _ _ _ _) (Na _ _ _ _ _ _ _ _ _ _ _ _ _ _) (EH _ _ _ _ _ _ _) ?_))
  clear hm
  intro w hm
  try simp only [puts,s2,List.set,List.eraseIdx,s3] at hm
  refine ⟨fun W=>Own _ W _ _,fun _ h=>h,hm.dropRow,?_⟩
  try simp only [Act.put,s3]
  iterate 2 refine kq ?_
  refine Ba ?_
  go_simp
  go_wp2_with (first
   |(go_at_call 81;refine cB (WV _) hm ?_;clear hm;intro w1 hm)
   |(with_reducible refine gSt (t:=88) ?_;(refine Ad rfl (Aj 3 hm rfl rfl (Ac rfl) rfl (Gt _ _ _ _ _ _ _) (by rw [Bg HZ.out,JZ];decide) (EH _ _ _ _ _ _ _) (Gu HZ.out rfl) ?_);clear hm;intro w hm;try simp only [puts,s2,List.set] at hm))
   |(with_reducible refine wla 88 0 hm ?_)
   |(with_reducible refine gLd (t:=74) ?_;(refine A8 rfl (ldp 0 hm rfl rfl rfl (vs:=#[.int .i64 m2,.int .i64 p2,.int .u32 s2]) rfl (ag rfl) (show 3+3<=7 by decide)) ?_))
   |(with_reducible refine wl 3 0 hm ?_)
   |(with_reducible refine gSt (t:=134) ?_;(refine Ad rfl (Aj 3 hm rfl rfl (Ac rfl) rfl (Cm _) (by rw [Bg HZ2.out];decide) (Ei _) (Eh HZ2.out rfl) ?_);clear hm;intro w hm;try simp only [puts,s2,List.set] at hm))
   |(with_reducible refine gSt (t:=141) ?_;(refine Ad rfl (Aj 3 hm rfl rfl (Ac rfl) rfl yj (by rw [Bg HZ3.out,Ju];decide) XJ (LV HZ3.out Ju) ?_);clear hm;intro w hm;try simp only [puts,s2,List.set] at hm))
   |(with_reducible refine gBu (t:=76) ?_;(refine A8 rfl (Gy rfl rfl rfl) ?_))
   |(with_reducible refine gBu (t:=141) ?_;(refine A8 rfl (Kr rfl) ?_))
   |(with_reducible refine ws 76 2 hm ?_ (h1:=(by with_unfolding_all exact Ak _ _ _ _ _ rfl _));clear hm;intro w hm)
    )
  refine bodyPost_ret (Af rfl rfl (hm.row 2 rfl) (Dw _ _ _ _ _ _ _)) rfl ⟨rfl,RR2,hQ,hm.dropRow.dropRow.dropRow⟩
 ·(refine Bo rfl rfl (Dl hm rfl FM ?_))
  clear hm
  intro w g9 hm
  refine ⟨fun W=>Own _ W _ _,fun _ h=>h,hm.dropRow,?_⟩
  try simp only [Act.put,s3]
  refine DJ rfl rfl (fun K hK=>?_)
  go_simp
  refine (CS.out _).mono ?_
  rintro e w1 ⟨rfl,hb⟩
  replace hm:=hm.call hb
  clear hb
  refine hK _ _ ⟨fun W=>Own _ W _ _,fun _ h=>h,(by exact hm.dropRow),?_⟩
  clear hK K
  iterate 4 refine kq ?_
  (refine Bo rfl rfl (Aw 0 hm rfl rfl (Ac rfl) rfl (Gt _ _ _ _ _ _ _) (Na _ _ _ _ _ _ _ _ _ _ _ _ _ _) (EH _ _ _ _ _ _ _) ?_))
  clear hm
  intro w hm
  try simp only [puts,s2,List.set,List.eraseIdx,s3] at hm
  refine ⟨fun W=>Own _ W _ _,fun _ h=>h,hm.dropRow,?_⟩
  try simp only [Act.put,s3]
  iterate 2 refine kq ?_
  refine Ba ?_
  go_simp
  go_wp2_with (first
   |(go_at_call 81;refine cB (WV _) hm ?_;clear hm;intro w1 hm)
   |(with_reducible refine gSt (t:=88) ?_;(refine Ad rfl (Aj 3 hm rfl rfl (Ac rfl) rfl (Gt _ _ _ _ _ _ _) (by rw [Bg HZ.out,JZ];decide) (EH _ _ _ _ _ _ _) (Gu HZ.out rfl) ?_);clear hm;intro w hm;try simp only [puts,s2,List.set] at hm))
   |(with_reducible refine wla 88 0 hm ?_)
   |(with_reducible refine gLd (t:=74) ?_;(refine A8 rfl (ldp 0 hm rfl rfl rfl (vs:=#[.int .i64 m2,.int .i64 p2,.int .u32 s2]) rfl (ag rfl) (show 3+3<=7 by decide)) ?_))
   |(with_reducible refine wl 3 0 hm ?_)
   |(with_reducible refine gSt (t:=134) ?_;(refine Ad rfl (Aj 3 hm rfl rfl (Ac rfl) rfl (Cm _) (by rw [Bg HZ2.out];decide) (Ei _) (Eh HZ2.out rfl) ?_);clear hm;intro w hm;try simp only [puts,s2,List.set] at hm))
   |(with_reducible refine gSt (t:=141) ?_;(refine Ad rfl (Aj 3 hm rfl rfl (Ac rfl) rfl yj (by rw [Bg HZ3.out,Ju];decide) XJ (LV HZ3.out Ju) ?_);clear hm;intro w hm;try simp only [puts,s2,List.set] at hm))
   |(with_reducible refine gBu (t:=76) ?_;(refine A8 rfl (Gy rfl rfl rfl) ?_))
   |(with_reducible refine gBu (t:=141) ?_;(refine A8 rfl (Kr rfl) ?_))
   |(with_reducible refine ws 76 2 hm ?_ (h1:=(by with_unfolding_all exact Ak _ _ _ _ _ rfl _));clear hm;intro w hm)
    )
  refine bodyPost_ret (Af rfl rfl (hm.row 2 rfl) (Dw _ _ _ _ _ _ _)) rfl ⟨rfl,RR2,hQ,hm.dropRow.dropRow.dropRow⟩
theorem dJ (gp:Nat) (n a V M m p s k c V2 M2 m2 p2 s2 k2:Int) (c0:0<=c) (c1:c<=255) (pr:Value) (pt ts cs ds er:Array Value) (RR:Rws) (w0 w:World) (ss:List Sl) (hm:Own w0 w ((gp,PR pt (HS 4 0 0 n) (MS a V M m p s k) ts cs ds er)::RR) ss) (Q:Rws->Prop) (CT:Hid (∀ W g,Own w0 W (g::(gp,PR pt (HS 4 0 0 n) (MS a V M m p s k) ts cs ds er)::RR) ss->Calls Tryz.prog 124 #[.pointer (some ⟨gp,0,none⟩),pr,.int .i64 8] W fun x w'=>(x=.returned (.tuple #[.int .u32 c,.agg (EVT 0 0 0 0 0 (.slice none 0 0) 0),.bool true]))/\∃ RR',Q RR'/\Own w0 w' (g::(gp,PR pt (HS 4 0 0 n) (MS a V M m p s k) ts cs ds er)::RR') ss)) (CS:Hid (∀ w,Calls Tryz.prog 101 #[.int .i64 n,.agg (MS a V M m p s k),.int .u8 c] w (RB w (.tuple #[.agg (MS 6 V2 M2 m2 p2 s2 k2),.bool true,.int .i64 0])))) (hz:PRz pt (HS 4 0 0 n) (MS a V M m p s k) ts cs ds er) :Calls Tryz.prog 80 #[.pointer (some ⟨gp,0,none⟩),pr] w fun x w'=>(x=.returned (.tuple #[.agg (EVT 6 0 m2 p2 s2 (.slice none 0 0) 0),.bool true]))/\∃ RR',Q RR'/\Own w0 w' ((gp,PR (PT 6) (HS 4 0 0 n) (MS 6 V2 M2 m2 p2 s2 k2) ts cs ds er)::RR') ss:=by
 have HZ:=Lib.hid hz
 have w1:IntKind.u8.wrap c=c:=IntWalk.u8_in _ (by omega)
 clear hz c0 c1
 have HZ2:Hid (PRz pt (HS 4 0 0 n) (MS 6 V2 M2 m2 p2 s2 k2) ts cs ds er):=Lib.hid (HZ.out.ms_ rfl)
 go_enter Tryz.func80,Tryz.ntmps80
 go_upto_region 4 with (first
  |(go_at_call 124;have _t:=hm;refine (CT.out _ _ hm).mono ?_;clear _t hm CT;rintro x w ⟨rfl,RR2,hQ,hm⟩)
  |(with_reducible refine wa 76 hm BX ?_;clear hm;intro w g hm)
  |(with_reducible refine ws 76 0 hm ?_ (h1:=(by with_unfolding_all exact Ak _ _ _ _ _ rfl _));clear hm;intro w hm)
   )
 refine rO hm 20 (.rds [(0,false),(1,false),(2,false),(3,false),(4,true),(5,false),(6,false),(7,false),(8,true),(9,false),(10,false)] (.two 11 (.rds [(12,false),(13,false),(14,false),(15,false)] (.one 16 (.one 17 (.rds [(18,false),(19,false)] .done)))) 16 (.one 11 (.rds [(12,false),(13,false),(14,false),(15,false)] (.one 17 (.rds [(18,false),(19,false)] .done)))))) ?_
 clear hm
 intro w hm
 simp only [KT.rds]
 iterate 4 refine kq ?_
 refine km (fun W hm=>ld 2 hm rfl rfl rfl (ot rfl) (OM HZ.out (i:=3) rfl)) ?_
 iterate 3 refine kq ?_
 refine km (fun W hm=>ldp 2 hm rfl rfl rfl (LQ HZ.out) (Gt _ _ _ _ _ _ _) (LW HZ.out)) ?_
 iterate 2 refine kq ?_
 refine au ?_ ?_
 ·refine DJ rfl rfl (fun K hK=>?_)
  go_simp
  refine (CS.out _).mono ?_
  rintro e w1 ⟨rfl,hb⟩
  replace hm:=hm.call hb
  clear hb
  refine hK _ _ ⟨fun W=>Own _ W _ _,fun _ h=>h,(by exact hm),?_⟩
  clear hK K
  iterate 4 refine kq ?_
  (refine Bo rfl rfl (Dl hm rfl FM ?_))
  clear hm
  intro w g9 hm
  refine ⟨fun W=>Own _ W _ _,fun _ h=>h,hm.dropRow,?_⟩
  try simp only [Act.put,s3]
  (refine Bo rfl rfl (Aw 0 hm rfl rfl (Ac rfl) rfl (Gt _ _ _ _ _ _ _) (Na _ _ _ _ _ _ _ _ _ _ _ _ _ _) (EH _ _ _ _ _ _ _) ?_))
  clear hm
  intro w hm
  try simp only [puts,s2,List.set,List.eraseIdx,s3] at hm
  refine ⟨fun W=>Own _ W _ _,fun _ h=>h,hm.dropRow,?_⟩
  try simp only [Act.put,s3]
  iterate 2 refine kq ?_
  refine Ba ?_
  go_simp
  go_wp2_with (first
   |(go_at_call 87;refine cB (WU _) hm ?_;clear hm;intro w1 hm)
   |(with_reducible refine gSt (t:=88) ?_;(refine Ad rfl (Aj 3 hm rfl rfl (Ac rfl) rfl (Gt _ _ _ _ _ _ _) (by rw [Bg HZ.out,JZ];decide) (EH _ _ _ _ _ _ _) (Gu HZ.out rfl) ?_);clear hm;intro w hm;try simp only [puts,s2,List.set] at hm))
   |(with_reducible refine wla 88 0 hm ?_)
   |(with_reducible refine gLd (t:=74) ?_;(refine A8 rfl (ldp 0 hm rfl rfl rfl (vs:=#[.int .i64 m2,.int .i64 p2,.int .u32 s2]) rfl (ag rfl) (show 3+3<=7 by decide)) ?_))
   |(with_reducible refine wl 3 0 hm ?_)
   |(with_reducible refine gSt (t:=134) ?_;(refine Ad rfl (Aj 3 hm rfl rfl (Ac rfl) rfl (Cm _) (by rw [Bg HZ2.out];decide) (Ei _) (Eh HZ2.out rfl) ?_);clear hm;intro w hm;try simp only [puts,s2,List.set] at hm))
   |(with_reducible refine gBu (t:=76) ?_;(refine A8 rfl (Gy rfl rfl rfl) ?_))
   |(with_reducible refine ws 76 2 hm ?_ (h1:=(by with_unfolding_all exact Ak _ _ _ _ _ rfl _));clear hm;intro w hm)
    )
  refine bodyPost_ret (Af rfl rfl (hm.row 2 rfl) (Dw _ _ _ _ _ _ _)) rfl ⟨rfl,RR2,hQ,hm.dropRow.dropRow.dropRow⟩
 ·(refine Bo rfl rfl (Dl hm rfl FM ?_))
  clear hm
  intro w g9 hm
  refine ⟨fun W=>Own _ W _ _,fun _ h=>h,hm.dropRow,?_⟩
  try simp only [Act.put,s3]
  refine DJ rfl rfl (fun K hK=>?_)
  go_simp
  refine (CS.out _).mono ?_
  rintro e w1 ⟨rfl,hb⟩
  replace hm:=hm.call hb
  clear hb
  refine hK _ _ ⟨fun W=>Own _ W _ _,fun _ h=>h,(by exact hm.dropRow),?_⟩
  clear hK K
  iterate 4 refine kq ?_
  (refine Bo rfl rfl (Aw 0 hm rfl rfl (Ac rfl) rfl (Gt _ _ _ _ _ _ _) (Na _ _ _ _ _ _ _ _ _ _ _ _ _ _) (EH _ _ _ _ _ _ _) ?_))
  clear hm
  intro w hm
  try simp only [puts,s2,List.set,List.eraseIdx,s3] at hm
  refine ⟨fun W=>Own _ W _ _,fun _ h=>h,hm.dropRow,?_⟩
  try simp only [Act.put,s3]
  iterate 2 refine kq ?_
  refine Ba ?_
  go_simp
  go_wp2_with (first
   |(go_at_call 87;refine cB (WU _) hm ?_;clear hm;intro w1 hm)
   |(with_reducible refine gSt (t:=88) ?_;(refine Ad rfl (Aj 3 hm rfl rfl (Ac rfl) rfl (Gt _ _ _ _ _ _ _) (by rw [Bg HZ.out,JZ];decide) (EH _ _ _ _ _ _ _) (Gu HZ.out rfl) ?_);clear hm;intro w hm;try simp only [puts,s2,List.set] at hm))
   |(with_reducible refine wla 88 0 hm ?_)
   |(with_reducible refine gLd (t:=74) ?_;(refine A8 rfl (ldp 0 hm rfl rfl rfl (vs:=#[.int .i64 m2,.int .i64 p2,.int .u32 s2]) rfl (ag rfl) (show 3+3<=7 by decide)) ?_))
   |(with_reducible refine wl 3 0 hm ?_)
   |(with_reducible refine gSt (t:=134) ?_;(refine Ad rfl (Aj 3 hm rfl rfl (Ac rfl) rfl (Cm _) (by rw [Bg HZ2.out];decide) (Ei _) (Eh HZ2.out rfl) ?_);clear hm;intro w hm;try simp only [puts,s2,List.set] at hm))
   |(with_reducible refine gBu (t:=76) ?_;(refine A8 rfl (Gy rfl rfl rfl) ?_))
   |(with_reducible refine ws 76 2 hm ?_ (h1:=(by with_unfolding_all exact Ak _ _ _ _ _ rfl _));clear hm;intro w hm)
    )
  refine bodyPost_ret (Af rfl rfl (hm.row 2 rfl) (Dw _ _ _ _ _ _ _)) rfl ⟨rfl,RR2,hQ,hm.dropRow.dropRow.dropRow⟩
theorem mQ (gp:Nat) (n a V M m p s k c:Int) (c0:0<=c) (c1:c<=255) (pr:Value) (pt ts cs ds er:Array Value) (RR:Rws) (w0 w:World) (ss:List Sl) (hm:Own w0 w ((gp,PR pt (HS 4 0 0 n) (MS a V M m p s k) ts cs ds er)::RR) ss) (Q:Rws->Prop) (CT:Hid (∀ W g,Own w0 W (g::(gp,PR pt (HS 4 0 0 n) (MS a V M m p s k) ts cs ds er)::RR) ss->Calls Tryz.prog 124 #[.pointer (some ⟨gp,0,none⟩),pr,.int .i64 8] W fun x w'=>(x=.returned (.tuple #[.int .u32 c,.agg (EVT 0 0 0 0 0 (.slice none 0 0) 0),.bool true]))/\∃ RR',Q RR'/\Own w0 w' (g::(gp,PR pt (HS 4 0 0 n) (MS a V M m p s k) ts cs ds er)::RR') ss)) (CS:Hid (∀ w,Calls Tryz.prog 101 #[.int .i64 n,.agg (MS a V M m p s k),.int .u8 c] w (RB w (.tuple #[.agg (MS 0 0 0 0 0 0 0),.bool false,.int .i64 242])))) (hz:PRz pt (HS 4 0 0 n) (MS a V M m p s k) ts cs ds er) :Calls Tryz.prog 80 #[.pointer (some ⟨gp,0,none⟩),pr] w fun x w'=>(x=.returned (.tuple #[.agg (EVT 8 0 0 0 0 (.slice none 0 0) 242),.bool true]))/\∃ RR',Q RR'/\Own w0 w' ((gp,PR (PT 8) (HS 4 0 0 n) (MS a V M m p s k) ts cs ds (ER 242))::RR') ss:=by
 have HZ:=Lib.hid hz
 have w1:IntKind.u8.wrap c=c:=IntWalk.u8_in _ (by omega)
 clear hz c0 c1
 have CW:Hid (∀ {W} {g9 g7 g:Nat × Array Value} {RR2},Own w0 W (g9::g7::g::(gp,PR pt (HS 4 0 0 n) (MS a V M m p s k) ts cs ds er)::RR2) ss->Calls Tryz.prog 125 #[.pointer (some ⟨gp,0,none⟩),.int .i64 242] W fun x w'=>(x=.returned (.tuple #[.agg (EVT 8 0 0 0 0 (.slice none 0 0) 242),.bool true]))/\Own w0 w' (g9::g7::g::(gp,PR (PT 8) (HS 4 0 0 n) (MS a V M m p s k) ts cs ds (ER 242))::RR2) ss):=Lib.hid fun h=>(Gf gp pt (HS 4 0 0 n) (MS a V M m p s k) ts cs ds er 242 w0 _ _ ss (h.front 3 rfl) HZ.out).mono fun x w' h=>⟨h.1,h.2.A1F⟩
 go_enter Tryz.func80,Tryz.ntmps80
 go_upto_region 4 with (first
  |(go_at_call 124;have _t:=hm;refine (CT.out _ _ hm).mono ?_;clear _t hm CT;rintro x w ⟨rfl,RR2,hQ,hm⟩)
  |(with_reducible refine wa 76 hm BX ?_;clear hm;intro w g hm)
  |(with_reducible refine ws 76 0 hm ?_ (h1:=(by with_unfolding_all exact Ak _ _ _ _ _ rfl _));clear hm;intro w hm)
   )
 refine rO hm 20 (.rds [(0,false),(1,false),(2,false),(3,false),(4,true),(5,false),(6,false),(7,false),(8,true),(9,false),(10,false)] (.two 11 (.rds [(12,false),(13,false),(14,false),(15,false)] (.one 16 (.one 17 (.rds [(18,false),(19,false)] .done)))) 16 (.one 11 (.rds [(12,false),(13,false),(14,false),(15,false)] (.one 17 (.rds [(18,false),(19,false)] .done)))))) ?_
 clear hm
 intro w hm
 simp only [KT.rds]
 iterate 4 refine kq ?_
 refine km (fun W hm=>ld 2 hm rfl rfl rfl (ot rfl) (OM HZ.out (i:=3) rfl)) ?_
 iterate 3 refine kq ?_
 refine km (fun W hm=>ldp 2 hm rfl rfl rfl (LQ HZ.out) (Gt _ _ _ _ _ _ _) (LW HZ.out)) ?_
 iterate 2 refine kq ?_
 refine au ?_ ?_
 ·refine DJ rfl rfl (fun K hK=>?_)
  go_simp
  refine (CS.out _).mono ?_
  rintro e w1 ⟨rfl,hb⟩
  replace hm:=hm.call hb
  clear hb
  refine hK _ _ ⟨fun W=>Own _ W _ _,fun _ h=>h,(by exact hm),?_⟩
  clear hK K
  iterate 4 refine kq ?_
  (refine Bo rfl rfl (Dl hm rfl FM ?_))
  clear hm
  intro w g9 hm
  refine ⟨fun W=>Own _ W _ _,fun _ h=>h,hm.dropRow,?_⟩
  try simp only [Act.put,s3]
  (refine Bo rfl rfl (Aw 0 hm rfl rfl (Ac rfl) rfl (Gt _ _ _ _ _ _ _) (Na _ _ _ _ _ _ _ _ _ _ _ _ _ _) (EH _ _ _ _ _ _ _) ?_))
  clear hm
  intro w hm
  try simp only [puts,s2,List.set,List.eraseIdx,s3] at hm
  refine ⟨fun W=>Own _ W _ _,fun _ h=>h,hm.dropRow,?_⟩
  try simp only [Act.put,s3]
  iterate 2 refine kq ?_
  refine Ba ?_
  go_simp
  go_wp2_with (first
   |(go_at_call 125;have _t:=hm;refine (CW.out hm).mono ?_;clear _t hm;rintro x w ⟨rfl,hm⟩)
   |(with_reducible refine ws 76 2 hm ?_ (h1:=(by with_unfolding_all exact Ak _ _ _ _ _ rfl _));clear hm;intro w hm))
  refine bodyPost_ret (Af rfl rfl (hm.row 2 rfl) (Dw _ _ _ _ _ _ _)) rfl ⟨rfl,RR2,hQ,hm.dropRow.dropRow.dropRow⟩
 ·(refine Bo rfl rfl (Dl hm rfl FM ?_))
  clear hm
  intro w g9 hm
  refine ⟨fun W=>Own _ W _ _,fun _ h=>h,hm.dropRow,?_⟩
  try simp only [Act.put,s3]
  refine DJ rfl rfl (fun K hK=>?_)
  go_simp
  refine (CS.out _).mono ?_
  rintro e w1 ⟨rfl,hb⟩
  replace hm:=hm.call hb
  clear hb
  refine hK _ _ ⟨fun W=>Own _ W _ _,fun _ h=>h,(by exact hm.dropRow),?_⟩
  clear hK K
  iterate 4 refine kq ?_
  (refine Bo rfl rfl (Aw 0 hm rfl rfl (Ac rfl) rfl (Gt _ _ _ _ _ _ _) (Na _ _ _ _ _ _ _ _ _ _ _ _ _ _) (EH _ _ _ _ _ _ _) ?_))
  clear hm
  intro w hm
  try simp only [puts,s2,List.set,List.eraseIdx,s3] at hm
  refine ⟨fun W=>Own _ W _ _,fun _ h=>h,hm.dropRow,?_⟩
  try simp only [Act.put,s3]
  iterate 2 refine kq ?_
  refine Ba ?_
  go_simp
  go_wp2_with (first
   |(go_at_call 125;have _t:=hm;refine (CW.out hm).mono ?_;clear _t hm;rintro x w ⟨rfl,hm⟩)
   |(with_reducible refine ws 76 2 hm ?_ (h1:=(by with_unfolding_all exact Ak _ _ _ _ _ rfl _));clear hm;intro w hm))
  refine bodyPost_ret (Af rfl rfl (hm.row 2 rfl) (Dw _ _ _ _ _ _ _)) rfl ⟨rfl,RR2,hQ,hm.dropRow.dropRow.dropRow⟩
set_option maxHeartbeats 1000000
set_option maxRecDepth 100000
variable {a:Act} {k:Int} {o:Oper} {x:Operand} {w:World}
theorem J8 (ho:o.op=.build 76 #[(0,x)]) (hx:a.eval x=.int .u8 k):(execOp a.eval o).run Tryz.prog w=.ok (.value (.agg (EVT k 0 0 0 0 (.slice none 0 0) 0))) w :=
 Dq ho (by simp only [List.map_toArray,List.map_cons,List.map_nil,hx];kernel_rfl)
theorem Ir (ho:o.op=.build 88 #[]):(execOp a.eval o).run Tryz.prog w=.ok (.value (.agg (MS 0 0 0 0 0 0 0))) w :=
 Dq ho (by simp only [List.map_toArray,List.map_nil];kernel_rfl)
theorem bV (gp:Nat) (n:Int) (pr:Value) (pt hs ms ts cs ds er:Array Value) (RR:Rws) (w0 w:World) (ss:List Sl) (hm:Own w0 w ((gp,PR pt hs ms ts cs ds er)::RR) ss) (P Q:Rws->Prop) (hQ:P RR) (CA:Hid (∀ W g RR,P RR->Own w0 W (g::(gp,PR pt hs ms ts cs ds er)::RR) ss->Calls Tryz.prog 131 #[pr] W fun x w'=>(x=.returned (.tuple #[.int .u32 0,.int .i64 n]))/\∃ RR',Q RR'/\Own w0 w' (g::(gp,PR pt hs ms ts cs ds er)::RR') ss)) (hz:PRz pt hs ms ts cs ds er):Calls Tryz.prog 86 #[.pointer (some ⟨gp,0,none⟩),pr] w fun x w'=>(x=.returned (.tuple #[.agg (EVT 5 0 0 0 0 (.slice none 0 0) 0),.bool true]))/\∃ RR',Q RR'/\Own w0 w' ((gp,PR (PT 2) hs (MS 0 0 0 0 0 0 0) ts cs ds er)::RR') ss:=by
 have HZ:=Lib.hid hz
 have HP:Hid (PRz (PT 2) hs ms ts cs ds er):=Lib.hid (hz.pt_ rfl)
 clear hz
 go_enter Tryz.func86,Tryz.ntmps86
 go_wp2_with (first
  |(go_at_call 131;have _t:=hm;refine (CA.out _ _ _ hQ hm).mono ?_;clear _t hm hQ;rintro x w ⟨rfl,RR2,hQ,hm⟩)
  |(go_at_call 79;refine cB (WW _) hm ?_;clear hm;intro w1 hm)
  |(with_reducible refine wa 76 hm BX ?_;clear hm;intro w g hm)
  |(with_reducible refine gBu (t:=76) ?_;(refine A8 rfl (J8 rfl rfl) ?_))
  |(with_reducible refine gBu (t:=88) ?_;(refine A8 rfl (Ir rfl) ?_))
  |(with_reducible refine gSt (t:=134) ?_;(refine Ad rfl (Aj 1 hm rfl rfl (Ac rfl) rfl (Cm _) (by rw [Bg HZ.out];decide) (Ei _) (Eh HZ.out rfl) ?_);clear hm;intro w hm;try simp only [puts,s2,List.set] at hm))
  |(with_reducible refine gSt (t:=88) ?_;(refine Ad rfl (Aj 1 hm rfl rfl (Ac rfl) rfl (Gt _ _ _ _ _ _ _) (by rw [Bg HP.out,JZ];decide) (EH _ _ _ _ _ _ _) (Gu HP.out rfl) ?_);clear hm;intro w hm;try simp only [puts,s2,List.set] at hm))
  |(with_reducible refine ws 76 0 hm ?_ (h1:=(by with_unfolding_all exact Ak _ _ _ _ _ rfl _));clear hm;intro w hm))
 refine bodyPost_ret (Af rfl rfl (hm.row 0 rfl) (Dw _ _ _ _ _ _ _)) rfl ⟨rfl,RR2,hQ,hm.dropRow⟩
theorem Yj (gp:Nat) (n v:Int) (pr:Value) (pt hs ms ts cs ds er:Array Value) (RR:Rws) (w0 w:World) (ss:List Sl) (hm:Own w0 w ((gp,PR pt hs ms ts cs ds er)::RR) ss) (P Q:Rws->Prop) (hQ:P RR) (hv:v ≠ 0) (CA:Hid (∀ W g RR,P RR->Own w0 W (g::(gp,PR pt hs ms ts cs ds er)::RR) ss->Calls Tryz.prog 131 #[pr] W fun x w'=>(x=.returned (.tuple #[.int .u32 v,.int .i64 n]))/\∃ RR',Q RR'/\Own w0 w' (g::(gp,PR pt hs ms ts cs ds er)::RR') ss)) (hz:PRz pt hs ms ts cs ds er):Calls Tryz.prog 86 #[.pointer (some ⟨gp,0,none⟩),pr] w fun x w'=>(x=.returned (.tuple #[.agg (EVT 8 0 0 0 0 (.slice none 0 0) 160),.bool true]))/\∃ RR',Q RR'/\Own w0 w' ((gp,PR (PT 8) hs ms ts cs ds (ER 160))::RR') ss:=by
 have HZ:=Lib.hid hz
 have CW:Hid (∀ {W} {g:Nat × Array Value} {RR2},Own w0 W (g::(gp,PR pt hs ms ts cs ds er)::RR2) ss->Calls Tryz.prog 125 #[.pointer (some ⟨gp,0,none⟩),.int .i64 160] W fun x w'=>(x=.returned (.tuple #[.agg (EVT 8 0 0 0 0 (.slice none 0 0) 160),.bool true]))/\Own w0 w' (g::(gp,PR (PT 8) hs ms ts cs ds (ER 160))::RR2) ss):=Lib.hid fun h=>(Gf gp pt hs ms ts cs ds er 160 w0 _ _ ss (h.front 1 rfl) HZ.out).mono fun x w' h=>⟨h.1,h.2.perm (List.Perm.swap _ _ _)⟩
 have q1:(v != 0)=true:=by simpa using hv
 have q2:(v == 0)=false:=by simpa using hv
 clear hv
 clear hz
 go_enter Tryz.func86,Tryz.ntmps86
 go_wp2_with (first
  |(go_at_call 131;have _t:=hm;refine (CA.out _ _ _ hQ hm).mono ?_;clear _t hm hQ;rintro x w ⟨rfl,RR2,hQ,hm⟩)
  |(go_at_call 125;have _t:=hm;refine (CW.out hm).mono ?_;clear _t hm;rintro x w ⟨rfl,hm⟩)
  |(with_reducible refine wa 76 hm BX ?_;clear hm;intro w g hm)
  |(with_reducible refine ws 76 0 hm ?_ (h1:=(by with_unfolding_all exact Ak _ _ _ _ _ rfl _));clear hm;intro w hm))
 refine bodyPost_ret (Af rfl rfl (hm.row 0 rfl) (Dw _ _ _ _ _ _ _)) rfl ⟨rfl,RR2,hQ,hm.dropRow⟩
theorem bJ (gp:Nat) (n:Int) (pr:Value) (pt hs ms ts cs ds er:Array Value) (RR:Rws) (w0 w:World) (ss:List Sl) (hm:Own w0 w ((gp,PR pt hs ms ts cs ds er)::RR) ss) (P Q:Rws->Prop) (hQ:P RR) (hn:0 < n) (CA:Hid (∀ W g RR,P RR->Own w0 W (g::(gp,PR pt hs ms ts cs ds er)::RR) ss->Calls Tryz.prog 132 #[pr] W fun x w'=>(x=.returned (.int .i64 n))/\∃ RR',Q RR'/\Own w0 w' (g::(gp,PR pt hs ms ts cs ds er)::RR') ss)) (hz:PRz pt hs ms ts cs ds er):Calls Tryz.prog 88 #[.pointer (some ⟨gp,0,none⟩),pr] w fun x w'=>(x=.returned (.tuple #[.agg (EVT 8 0 0 0 0 (.slice none 0 0) 261),.bool true]))/\∃ RR',Q RR'/\Own w0 w' ((gp,PR (PT 8) hs ms ts cs ds (ER 261))::RR') ss:=by
 have HZ:=Lib.hid hz
 have CW:Hid (∀ {W} {g:Nat × Array Value} {RR2},Own w0 W (g::(gp,PR pt hs ms ts cs ds er)::RR2) ss->Calls Tryz.prog 125 #[.pointer (some ⟨gp,0,none⟩),.int .i64 261] W fun x w'=>(x=.returned (.tuple #[.agg (EVT 8 0 0 0 0 (.slice none 0 0) 261),.bool true]))/\Own w0 w' (g::(gp,PR (PT 8) hs ms ts cs ds (ER 261))::RR2) ss):=Lib.hid fun h=>(Gf gp pt hs ms ts cs ds er 261 w0 _ _ ss (h.front 1 rfl) HZ.out).mono fun x w' h=>⟨h.1,h.2.perm (List.Perm.swap _ _ _)⟩
 have q1:decide (n > 0)=true:=by simpa using hn
 have q2:decide (0 < n)=true:=by simpa using hn
 clear hn
 clear hz
 go_enter Tryz.func88,Tryz.ntmps88
 go_wp2_with (first
  |(go_at_call 132;have _t:=hm;refine (CA.out _ _ _ hQ hm).mono ?_;clear _t hm hQ;rintro x w ⟨rfl,RR2,hQ,hm⟩)
  |(go_at_call 125;have _t:=hm;refine (CW.out hm).mono ?_;clear _t hm;rintro x w ⟨rfl,hm⟩)
  |(with_reducible refine wa 76 hm BX ?_;clear hm;intro w g hm)
  |(with_reducible refine ws 76 0 hm ?_ (h1:=(by with_unfolding_all exact Ak _ _ _ _ _ rfl _));clear hm;intro w hm))
 refine bodyPost_ret (Af rfl rfl (hm.row 0 rfl) (Dw _ _ _ _ _ _ _)) rfl ⟨rfl,RR2,hQ,hm.dropRow⟩
theorem lJ (gp:Nat) (n:Int) (pr:Value) (pt hs ms ts cs ds er:Array Value) (RR:Rws) (w0 w:World) (ss:List Sl) (hm:Own w0 w ((gp,PR pt hs ms ts cs ds er)::RR) ss) (P Q:Rws->Prop) (hQ:P RR) (hn:¬ 0 < n) (CA:Hid (∀ W g RR,P RR->Own w0 W (g::(gp,PR pt hs ms ts cs ds er)::RR) ss->Calls Tryz.prog 132 #[pr] W fun x w'=>(x=.returned (.int .i64 n))/\∃ RR',P RR'/\Own w0 w' (g::(gp,PR pt hs ms ts cs ds er)::RR') ss)) (CE:Hid (∀ W g RR,P RR->Own w0 W (g::(gp,PR pt hs ms ts cs ds er)::RR) ss->Calls Tryz.prog 133 #[pr] W fun x w'=>(x=.returned (.bool true))/\∃ RR',Q RR'/\Own w0 w' (g::(gp,PR pt hs ms ts cs ds er)::RR') ss)) (hz:PRz pt hs ms ts cs ds er):Calls Tryz.prog 88 #[.pointer (some ⟨gp,0,none⟩),pr] w fun x w'=>(x=.returned (.tuple #[.agg (EVT 7 0 0 0 0 (.slice none 0 0) 0),.bool true]))/\∃ RR',Q RR'/\Own w0 w' ((gp,PR (PT 7) hs ms ts cs ds er)::RR') ss:=by
 have HZ:=Lib.hid hz
 have q1:decide (n > 0)=false:=by simpa using hn
 have q2:decide (0 < n)=false:=by simpa using hn
 clear hn
 clear hz
 go_enter Tryz.func88,Tryz.ntmps88
 go_wp2_with (first
  |(go_at_call 132;have _t:=hm;refine (CA.out _ _ _ hQ hm).mono ?_;clear _t hm hQ;rintro x w ⟨rfl,RR2,hQ,hm⟩)
  |(go_at_call 133;have _t:=hm;refine (CE.out _ _ _ hQ hm).mono ?_;clear _t hm hQ;rintro x w ⟨rfl,RR2,hQ,hm⟩)
  |(go_at_call 89;refine cB (iD _) hm ?_;clear hm;intro w1 hm)
  |(with_reducible refine wa 76 hm BX ?_;clear hm;intro w g hm)
  |(with_reducible refine gBu (t:=76) ?_;(refine A8 rfl (J8 rfl rfl) ?_))
  |(with_reducible refine gSt (t:=134) ?_;(refine Ad rfl (Aj 1 hm rfl rfl (Ac rfl) rfl (Cm _) (by rw [Bg HZ.out];decide) (Ei _) (Eh HZ.out rfl) ?_);clear hm;intro w hm;try simp only [puts,s2,List.set] at hm))
  |(with_reducible refine ws 76 0 hm ?_ (h1:=(by with_unfolding_all exact Ak _ _ _ _ _ rfl _));clear hm;intro w hm))
 refine bodyPost_ret (Af rfl rfl (hm.row 0 rfl) (Dw _ _ _ _ _ _ _)) rfl ⟨rfl,RR2,hQ,hm.dropRow⟩
theorem wL (gp:Nat) (pr:Value) (pt hs ms ts cs ds er:Array Value) (RR:Rws) (w0 w:World) (ss:List Sl) (hm:Own w0 w ((gp,PR pt hs ms ts cs ds er)::RR) ss):Calls Tryz.prog 90 #[.pointer (some ⟨gp,0,none⟩),pr] w fun x w'=>(x=.returned (.tuple #[.agg (EVT 7 0 0 0 0 (.slice none 0 0) 0),.bool true]))/\Own w0 w' ((gp,PR pt hs ms ts cs ds er)::RR) ss:=by
 go_enter Tryz.func90,Tryz.ntmps90
 go_wp2_with (first
  |(with_reducible refine wa 76 hm BX ?_;clear hm;intro w g hm)
  |(with_reducible refine gBu (t:=76) ?_;(refine A8 rfl (J8 rfl rfl) ?_))
  |(with_reducible refine ws 76 0 hm ?_ (h1:=(by with_unfolding_all exact Ak _ _ _ _ _ rfl _));clear hm;intro w hm))
 refine bodyPost_ret (Af rfl rfl (hm.row 0 rfl) (Dw _ _ _ _ _ _ _)) rfl ⟨rfl,hm.dropRow⟩
theorem nI (gp:Nat) (e:Int) (pr:Value) (pt hs ms ts cs ds:Array Value) (RR:Rws) (w0 w:World) (ss:List Sl) (hm:Own w0 w ((gp,PR pt hs ms ts cs ds (ER e))::RR) ss) (hz:PRz pt hs ms ts cs ds (ER e)):Calls Tryz.prog 92 #[.pointer (some ⟨gp,0,none⟩),pr] w fun x w'=>(x=.returned (.tuple #[.agg (EVT 8 0 0 0 0 (.slice none 0 0) e),.bool true]))/\Own w0 w' ((gp,PR pt hs ms ts cs ds (ER e))::RR) ss:=by
 have HZ:=Lib.hid hz
 clear hz
 go_enter Tryz.func92,Tryz.ntmps92
 go_wp2_with (first
  |(with_reducible refine wa 76 hm BX ?_;clear hm;intro w g hm)
  |(with_reducible refine wl 25 1 hm ?_ (hv:=(by with_unfolding_all exact yK HZ.out (i:=0) rfl)))
  |(with_reducible refine gBu (t:=76) ?_;(refine A8 rfl (MN rfl rfl rfl) ?_))
  |(with_reducible refine ws 76 0 hm ?_ (h1:=(by with_unfolding_all exact Ak _ _ _ _ _ rfl _));clear hm;intro w hm))
 refine bodyPost_ret (Af rfl rfl (hm.row 0 rfl) (Dw _ _ _ _ _ _ _)) rfl ⟨rfl,hm.dropRow⟩
set_option maxHeartbeats 1000000
set_option maxRecDepth 100000
variable {cs ds er hs l ms pt:Array Value}
theorem PRz.V3 {ts:Array Value} (h:PRz pt hs ms ts cs ds er):Aq Tryz.prog 141 ts.size:=by rw [h.ts];exact ag (by decide)
theorem PRz.L6 {ts:Array Value} (h:PRz pt hs ms ts cs ds er):Aq Tryz.prog 143 cs.size:=by rw [h.cs];exact ag (by decide)
theorem PRz.Ud {ts:Array Value} (h:PRz pt hs ms ts cs ds er):Aq Tryz.prog 147 ds.size:=by rw [h.ds];exact ag (by decide)
theorem ag139 (h:l.size=258):Aq Tryz.prog 139 l.size:=by rw [h];exact ag (by decide)
theorem Uj:(TS Hf 0 0 0 0).size=262:=Dy Az
theorem OY:(CS Hf 0 0).size=260:=CU Az
theorem kS (gp:Nat) (c:Int) (c0:0<=c) (c1:c<=1) (pr:Value) (pt hs ms ts cs ds er:Array Value) (RR:Rws) (w0 w:World) (ss:List Sl) (hm:Own w0 w ((gp,PR pt hs ms ts cs ds er)::RR) ss) (Q:Rws->Prop) (CT:Hid (∀ W g,Own w0 W (g::(gp,PR pt hs ms ts cs ds er)::RR) ss->Calls Tryz.prog 124 #[.pointer (some ⟨gp,0,none⟩),pr,.int .i64 1] W fun x w'=>(x=.returned (.tuple #[.int .u32 c,.agg (EVT 0 0 0 0 0 (.slice none 0 0) 0),.bool true]))/\∃ RR',Q RR'/\Own w0 w' (g::(gp,PR pt hs ms ts cs ds er)::RR') ss)) (ts2:Array Value) (CS:Hid (∀ w,Calls Tryz.prog 126 #[.agg ts,.int .i64 c] w (RB w (.tuple #[.agg ts2,.bool false,.int .i64 0])))) (hz:PRz pt hs ms ts cs ds er) (k2:ts2.size=262) (o2:∀ v ∈ ts2,v.oneCell'=true) :Calls Tryz.prog 82 #[.pointer (some ⟨gp,0,none⟩),pr] w fun x w'=>(x=.returned (.tuple #[.agg (EVT 0 0 0 0 0 (.slice none 0 0) 0),.bool false]))/\∃ RR',Q RR'/\Own w0 w' ((gp,PR pt hs ms ts2 cs ds er)::RR') ss:=by
 have HZ:=Lib.hid hz
 have HT:Hid (PRz pt hs ms ts2 cs ds er):=Lib.hid (hz.ts_ k2)
 have K2:=Lib.hid k2
 have O2:=Lib.hid o2
 have w1:IntKind.i64.wrap c=c:=IntWalk.i64_in _ (by omega)
 clear hz c0 c1 k2 o2
 go_enter Tryz.func82,Tryz.ntmps82
 go_wp2_with (first
  |(go_at_call 124;have _t:=hm;refine (CT.out _ _ hm).mono ?_;clear _t hm CT;rintro x w ⟨rfl,RR2,hQ,hm⟩)
  |(go_at_call 126;refine cB (CS.out _) hm ?_;clear hm;intro w1 hm)
  |(with_reducible refine wa 76 hm BX ?_;clear hm;intro w g hm)
  |(with_reducible refine wa 141 hm Jz ?_;clear hm;intro w g9 hm)
  |(with_reducible refine gLd (t:=141) ?_;(first|(refine A8 rfl (ldp 2 hm rfl rfl rfl (PZ HZ.out) HZ.out.V3 (Q9 HZ.out)) ?_)|(refine A8 rfl (lda 0 hm rfl rfl rfl HT.out.V3) ?_)))
  |(with_reducible refine gSt (t:=141) ?_;(first|(refine Ad rfl (Aw 0 hm rfl rfl (Ac rfl) rfl HT.out.V3 (by rw [K2.out,Uj]) O2.out ?_);clear hm;intro w hm;try simp only [puts,s2,List.set] at hm)|(refine Ad rfl (Aj 3 hm rfl rfl (Ac rfl) rfl HT.out.V3 (by rw [Bg HZ.out,K2.out];decide) O2.out (LV HZ.out K2.out) ?_);clear hm;intro w hm;try simp only [puts,s2,List.set] at hm)))
  |(with_reducible (first|refine ws 76 0 hm ?_ (h1:=(by with_unfolding_all exact Ak _ _ _ _ _ rfl _))|refine ws 76 2 hm ?_ (h1:=(by with_unfolding_all exact Ak _ _ _ _ _ rfl _)));clear hm;intro w hm)
  |(with_reducible refine wla 76 1 hm ?_))
 refine bodyPost_ret (Af rfl rfl (hm.row 2 rfl) (Dw _ _ _ _ _ _ _)) rfl ⟨rfl,RR2,hQ,hm.dropRow.dropRow.dropRow⟩
theorem XU (gp:Nat) (c a V M m p s k:Int) (c0:0<=c) (c1:c<=1) (pr:Value) (pt hs ts cs ds er:Array Value) (RR:Rws) (w0 w:World) (ss:List Sl) (hm:Own w0 w ((gp,PR pt hs (MS a V M m p s k) ts cs ds er)::RR) ss) (Q:Rws->Prop) (CT:Hid (∀ W g,Own w0 W (g::(gp,PR pt hs (MS a V M m p s k) ts cs ds er)::RR) ss->Calls Tryz.prog 124 #[.pointer (some ⟨gp,0,none⟩),pr,.int .i64 1] W fun x w'=>(x=.returned (.tuple #[.int .u32 c,.agg (EVT 0 0 0 0 0 (.slice none 0 0) 0),.bool true]))/\∃ RR',Q RR'/\Own w0 w' (g::(gp,PR pt hs (MS a V M m p s k) ts cs ds er)::RR') ss)) (ts2:Array Value) (CS:Hid (∀ w,Calls Tryz.prog 126 #[.agg ts,.int .i64 c] w (RB w (.tuple #[.agg ts2,.bool true,.int .i64 0])))) (hz:PRz pt hs (MS a V M m p s k) ts cs ds er) (k2:ts2.size=262) (o2:∀ v ∈ ts2,v.oneCell'=true) (cs2 ds2 L:Array Value) (hl:ts2.extract 0 (0+L.size)=L) (kl:L.size=258) (kc:cs2.size=260) (oc:∀ v ∈ cs2,v.oneCell'=true) (kd:ds2.size=260) (od:∀ v ∈ ds2,v.oneCell'=true) (CP:Hid (∀ w,Calls Tryz.prog 127 #[.agg L] w (RB w (.tuple #[.agg cs2,.int .i64 0])))) (CD:Hid (∀ w,Calls Tryz.prog 128 #[.int .i64 m] w (RB w (.agg ds2)))):Calls Tryz.prog 82 #[.pointer (some ⟨gp,0,none⟩),pr] w fun x w'=>(x=.returned (.tuple #[.agg (EVT 0 0 0 0 0 (.slice none 0 0) 0),.bool false]))/\∃ RR',Q RR'/\Own w0 w' ((gp,PR (PT 4) hs (MS a V M m p s k) ts2 cs2 ds2 er)::RR') ss:=by
 have HZ:=Lib.hid hz
 have HT:Hid (PRz pt hs (MS a V M m p s k) ts2 cs ds er):=Lib.hid (hz.ts_ k2)
 have K2:=Lib.hid k2
 have O2:=Lib.hid o2
 have w1:IntKind.i64.wrap c=c:=IntWalk.i64_in _ (by omega)
 clear hz c0 c1 k2 o2
 have HC:Hid (PRz pt hs (MS a V M m p s k) ts2 cs2 ds er):=Lib.hid (HT.out.cs_ kc)
 have HD:Hid (PRz pt hs (MS a V M m p s k) ts2 cs2 ds2 er):=Lib.hid (HC.out.ds_ kd)
 have HL:=Lib.hid hl
 have KL:=Lib.hid kl
 have KC:=Lib.hid kc
 have OC:=Lib.hid oc
 have KD:=Lib.hid kd
 have OD:=Lib.hid od
 clear hl kl kc oc kd od
 go_enter Tryz.func82,Tryz.ntmps82
 go_wp2_with (first
  |(go_at_call 124;have _t:=hm;refine (CT.out _ _ hm).mono ?_;clear _t hm CT;rintro x w ⟨rfl,RR2,hQ,hm⟩)
  |(go_at_call 126;refine cB (CS.out _) hm ?_;clear hm;intro w1 hm)
  |(with_reducible refine wa 76 hm BX ?_;clear hm;intro w g hm)
  |(with_reducible refine wa 141 hm Jz ?_;clear hm;intro w g9 hm)
  |(with_reducible refine gLd (t:=141) ?_;(first|(refine A8 rfl (ldp 2 hm rfl rfl rfl (PZ HZ.out) HZ.out.V3 (Q9 HZ.out)) ?_)|(refine A8 rfl (lda 0 hm rfl rfl rfl HT.out.V3) ?_)))
  |(with_reducible refine gSt (t:=141) ?_;(first|(refine Ad rfl (Aw 0 hm rfl rfl (Ac rfl) rfl HT.out.V3 (by rw [K2.out,Uj]) O2.out ?_);clear hm;intro w hm;try simp only [puts,s2,List.set] at hm)|(refine Ad rfl (Aj 3 hm rfl rfl (Ac rfl) rfl HT.out.V3 (by rw [Bg HZ.out,K2.out];decide) O2.out (LV HZ.out K2.out) ?_);clear hm;intro w hm;try simp only [puts,s2,List.set] at hm)))
  |(go_at_call 127;refine cB (CP.out _) hm ?_;clear hm;intro w1 hm)
  |(go_at_call 128;refine cB (CD.out _) hm ?_;clear hm;intro w1 hm)
  |(go_at_call 83;refine cB (iF _) hm ?_;clear hm;intro w1 hm)
  |(with_reducible refine gLd (t:=139) ?_;(refine A8 rfl (ldp 0 hm rfl rfl rfl HL.out (ag139 KL.out) (by rw [K2.out,KL.out];decide)) ?_))
  |(with_reducible refine gSt (t:=143) ?_;(refine Ad rfl (Aj 3 hm rfl rfl (Ac rfl) rfl HC.out.L6 (by rw [Bg HT.out,KC.out];decide) OC.out (Jy HT.out KC.out) ?_);clear hm;intro w hm;try simp only [puts,s2,List.set] at hm))
  |(with_reducible refine wl 3 3 hm ?_ (hv:=(by with_unfolding_all exact yJ HC.out (i:=3) rfl)))
  |(with_reducible refine gSt (t:=147) ?_;(refine Ad rfl (Aj 3 hm rfl rfl (Ac rfl) rfl HD.out.Ud (by rw [Bg HC.out,KD.out];decide) OD.out (Q8 HC.out KD.out) ?_);clear hm;intro w hm;try simp only [puts,s2,List.set] at hm))
  |(with_reducible refine gSt (t:=134) ?_;(refine Ad rfl (Aj 3 hm rfl rfl (Ac rfl) rfl (Cm _) (by rw [Bg HD.out];decide) (Ei _) (Eh HD.out rfl) ?_);clear hm;intro w hm;try simp only [puts,s2,List.set] at hm))
  |(with_reducible (first|refine ws 76 0 hm ?_ (h1:=(by with_unfolding_all exact Ak _ _ _ _ _ rfl _))|refine ws 76 2 hm ?_ (h1:=(by with_unfolding_all exact Ak _ _ _ _ _ rfl _)));clear hm;intro w hm)
  |(with_reducible refine wla 76 1 hm ?_))
 refine bodyPost_ret (Af rfl rfl (hm.row 2 rfl) (Dw _ _ _ _ _ _ _)) rfl ⟨rfl,RR2,hQ,hm.dropRow.dropRow.dropRow⟩
theorem aT (gp:Nat) (c:Int) (c0:0<=c) (c1:c<=1) (pr:Value) (pt hs ms ts cs ds er:Array Value) (RR:Rws) (w0 w:World) (ss:List Sl) (hm:Own w0 w ((gp,PR pt hs ms ts cs ds er)::RR) ss) (Q:Rws->Prop) (CT:Hid (∀ W g,Own w0 W (g::(gp,PR pt hs ms ts cs ds er)::RR) ss->Calls Tryz.prog 124 #[.pointer (some ⟨gp,0,none⟩),pr,.int .i64 1] W fun x w'=>(x=.returned (.tuple #[.int .u32 c,.agg (EVT 0 0 0 0 0 (.slice none 0 0) 0),.bool true]))/\∃ RR',Q RR'/\Own w0 w' (g::(gp,PR pt hs ms ts cs ds er)::RR') ss)) (ts2:Array Value) (CS:Hid (∀ w,Calls Tryz.prog 126 #[.agg ts,.int .i64 c] w (RB w (.tuple #[.agg ts2,.bool false,.int .i64 100])))) (hz:PRz pt hs ms ts cs ds er) (k2:ts2.size=262) (o2:∀ v ∈ ts2,v.oneCell'=true) :Calls Tryz.prog 82 #[.pointer (some ⟨gp,0,none⟩),pr] w fun x w'=>(x=.returned (.tuple #[.agg (EVT 8 0 0 0 0 (.slice none 0 0) 100),.bool true]))/\∃ RR',Q RR'/\Own w0 w' ((gp,PR (PT 8) hs ms ts cs ds (ER 100))::RR') ss:=by
 have HZ:=Lib.hid hz
 have HT:Hid (PRz pt hs ms ts2 cs ds er):=Lib.hid (hz.ts_ k2)
 have K2:=Lib.hid k2
 have O2:=Lib.hid o2
 have w1:IntKind.i64.wrap c=c:=IntWalk.i64_in _ (by omega)
 clear hz c0 c1 k2 o2
 have CW:Hid (∀ {W} {g9 g7 g:Nat × Array Value} {RR2},Own w0 W (g9::g7::g::(gp,PR pt hs ms ts cs ds er)::RR2) ss->Calls Tryz.prog 125 #[.pointer (some ⟨gp,0,none⟩),.int .i64 100] W fun x w'=>(x=.returned (.tuple #[.agg (EVT 8 0 0 0 0 (.slice none 0 0) 100),.bool true]))/\Own w0 w' (g9::g7::g::(gp,PR (PT 8) hs ms ts cs ds (ER 100))::RR2) ss):=Lib.hid fun h=>(Gf gp pt hs ms ts cs ds er 100 w0 _ _ ss (h.front 3 rfl) HZ.out).mono fun x w' h=>⟨h.1,h.2.A1F⟩
 go_enter Tryz.func82,Tryz.ntmps82
 go_wp2_with (first
  |(go_at_call 124;have _t:=hm;refine (CT.out _ _ hm).mono ?_;clear _t hm CT;rintro x w ⟨rfl,RR2,hQ,hm⟩)
  |(go_at_call 126;refine cB (CS.out _) hm ?_;clear hm;intro w1 hm)
  |(go_at_call 125;have _t:=hm;refine (CW.out hm).mono ?_;clear _t hm;rintro x w ⟨rfl,hm⟩)
  |(with_reducible refine wa 76 hm BX ?_;clear hm;intro w g hm)
  |(with_reducible refine wa 141 hm Jz ?_;clear hm;intro w g9 hm)
  |(with_reducible refine gLd (t:=141) ?_;((refine A8 rfl (ldp 2 hm rfl rfl rfl (PZ HZ.out) HZ.out.V3 (Q9 HZ.out)) ?_)))
  |(with_reducible refine ws 141 0 hm ?_ (ht:=(by with_unfolding_all exact HT.out.V3)) (hs:=(by with_unfolding_all rw [K2.out,Uj])) (h1:=(by with_unfolding_all exact O2.out));clear hm;intro w hm)
  |(with_reducible (first|refine ws 76 0 hm ?_ (h1:=(by with_unfolding_all exact Ak _ _ _ _ _ rfl _))|refine ws 76 2 hm ?_ (h1:=(by with_unfolding_all exact Ak _ _ _ _ _ rfl _)));clear hm;intro w hm)
   )
 refine bodyPost_ret (Af rfl rfl (hm.row 2 rfl) (Dw _ _ _ _ _ _ _)) rfl ⟨rfl,RR2,hQ,hm.dropRow.dropRow.dropRow⟩
set_option maxHeartbeats 1000000
set_option maxRecDepth 100000
theorem A2f (n:Int) (w:World):Calls Tryz.prog 138 #[.int .i64 n,.agg (MS 0 0 0 0 0 0 0),.int .u8 0] w (RB w (.tuple #[.agg (MS 5 0 0 0 0 0 0),.bool true])):=by
 go_enter Tryz.func138,Tryz.ntmps138
 have hm:=Own.nil w
 go_wp2_with (first
  |(with_reducible refine wla _ 1 hm ?_)
  |(refine Ad rfl (AZ 1 hm rfl rfl rfl rfl (ot rfl) (by simp) rfl rfl rfl ?_);clear hm;intro w hm;try simp only [puts,s2,List.set,List.eraseIdx,s3] at hm)
  |(with_reducible refine ws _ 0 hm ?_;clear hm;intro w hm)
  |(with_reducible refine wa _ hm H9 ?_;clear hm;intro w g hm)
  |(with_reducible refine wb hm ?_;clear hm;intro w g hm))
 (refine bodyPost_ret (Af rfl rfl (hm.row 0 rfl) (ag rfl)) rfl ?_)
 exact ⟨rfl,hm.below⟩
theorem A2e (n:Int) (w:World):Calls Tryz.prog 138 #[.int .i64 n,.agg (MS 0 0 0 0 0 0 0),.int .u8 1] w (RB w (.tuple #[.agg (MS 1 0 0 0 0 0 0),.bool true])):=by
 go_enter Tryz.func138,Tryz.ntmps138
 have hm:=Own.nil w
 go_wp2_with (first
  |(with_reducible refine wla _ 1 hm ?_)
  |(refine Ad rfl (AZ 1 hm rfl rfl rfl rfl (ot rfl) (by simp) rfl rfl rfl ?_);clear hm;intro w hm;try simp only [puts,s2,List.set,List.eraseIdx,s3] at hm)
  |(with_reducible refine ws _ 0 hm ?_;clear hm;intro w hm)
  |(with_reducible refine wa _ hm H9 ?_;clear hm;intro w g hm)
  |(with_reducible refine wb hm ?_;clear hm;intro w g hm))
 (refine bodyPost_ret (Af rfl rfl (hm.row 0 rfl) (ag rfl)) rfl ?_)
 exact ⟨rfl,hm.below⟩
theorem A2d (n c:Int) (h:1 < c) (w:World):Calls Tryz.prog 138 #[.int .i64 n,.agg (MS 0 0 0 0 0 0 0),.int .u8 c] w (RB w (.tuple #[.agg (MS 1 0 0 0 0 0 0),.bool false])):=by
 have q1:(c == 0)=false:=by simp;omega
 have q2:decide (c<=1)=false:=decide_eq_false (by omega)
 go_enter Tryz.func138,Tryz.ntmps138
 have hm:=Own.nil w
 go_wp2_with (first
  |(with_reducible refine wla _ 1 hm ?_)
  |(refine Ad rfl (AZ 1 hm rfl rfl rfl rfl (ot rfl) (by simp) rfl rfl rfl ?_);clear hm;intro w hm;try simp only [puts,s2,List.set,List.eraseIdx,s3] at hm)
  |(with_reducible refine ws _ 0 hm ?_;clear hm;intro w hm)
  |(with_reducible refine wa _ hm H9 ?_;clear hm;intro w g hm)
  |(with_reducible refine wb hm ?_;clear hm;intro w g hm))
 (refine bodyPost_ret (Af rfl rfl (hm.row 0 rfl) (ag rfl)) rfl ?_)
 exact ⟨rfl,hm.below⟩
theorem YN (n m:Int) (V M c:Int) (hv:DX V M=true) (hM0:0<=M) (hM:M<=4) (c0:0<=c) (c1:c<=255) (hV:V<=n) (hb:n<=65536) (hd:EZ M c=true) (w:World):Calls Tryz.prog 139 #[.int .i64 n,.agg (MS 1 V M 0 0 0 0),.int .u8 c] w (RB w (.tuple #[.agg (MS 2 0 0 (D5 V M c) 0 0 0),.bool (EL V M c n)])):=by
 have CG:=fun w=>hgrow V M c n hv hM0 hM (by omega) c0 c1 w
 simp only [hd] at CG
 have CG:=Lib.hid CG
 clear hv
 generalize D5 V M c=x at *
 generalize EM M c=y at *
 generalize EL V M c n=z at *
 clear hd
 go_enter Tryz.func139,Tryz.ntmps139
 have hm:=Own.nil w
 go_wp2_with (first
  |(go_at_call 137;refine cB (CG.out _) hm ?_;clear hm;intro w1 hm)
  |(with_reducible refine wl _ 0 hm ?_)
  |(refine A8 rfl (ld2 0 hm rfl rfl rfl (ag rfl) rfl rfl) ?_)
  |(refine A8 rfl (ld2 1 hm rfl rfl rfl (ag rfl) rfl rfl) ?_)
  |(with_reducible refine wla _ 2 hm ?_)
  |(with_reducible refine ws _ 0 hm ?_;clear hm;intro w hm)
  |(with_reducible refine ws _ 1 hm ?_;clear hm;intro w hm)
  |(with_reducible refine ws _ 2 hm ?_;clear hm;intro w hm)
  |(with_reducible refine wu _ 2 hm ?_;clear hm;intro w hm)
  |(with_reducible refine wa _ hm Ja ?_;clear hm;intro w g hm)
  |(with_reducible refine wa _ hm H9 ?_;clear hm;intro w g hm)
  |(with_reducible refine wb hm ?_;clear hm;intro w g hm))
 (refine bodyPost_ret (Af rfl rfl (hm.row 1 rfl) (ag rfl)) rfl ?_)
 exact ⟨rfl,hm.below⟩
theorem je (n m:Int) (V M c:Int) (hv:DX V M=true) (hM0:0<=M) (hM:M<=4) (c0:0<=c) (c1:c<=255) (hV:V<=n) (hb:n<=65536) (hd:EZ M c=false) (w:World):Calls Tryz.prog 139 #[.int .i64 n,.agg (MS 1 V M 0 0 0 0),.int .u8 c] w (RB w (.tuple #[.agg (MS 1 (D5 V M c) (EM M c) 0 0 0 0),.bool (EL V M c n)])):=by
 have CG:=fun w=>hgrow V M c n hv hM0 hM (by omega) c0 c1 w
 simp only [hd] at CG
 have CG:=Lib.hid CG
 clear hv
 generalize D5 V M c=x at *
 generalize EM M c=y at *
 generalize EL V M c n=z at *
 clear hd
 go_enter Tryz.func139,Tryz.ntmps139
 have hm:=Own.nil w
 go_wp2_with (first
  |(go_at_call 137;refine cB (CG.out _) hm ?_;clear hm;intro w1 hm)
  |(refine A8 rfl (ld2 0 hm rfl rfl rfl (ag rfl) rfl rfl) ?_)
  |(refine A8 rfl (ld2 1 hm rfl rfl rfl (ag rfl) rfl rfl) ?_)
  |(with_reducible refine wla _ 2 hm ?_)
  |(with_reducible refine ws _ 0 hm ?_;clear hm;intro w hm)
  |(with_reducible refine ws _ 1 hm ?_;clear hm;intro w hm)
  |(with_reducible refine wu _ 2 hm ?_;clear hm;intro w hm)
  |(with_reducible refine wa _ hm Ja ?_;clear hm;intro w g hm)
  |(with_reducible refine wa _ hm H9 ?_;clear hm;intro w g hm)
  |(with_reducible refine wb hm ?_;clear hm;intro w g hm))
 (refine bodyPost_ret (Af rfl rfl (hm.row 1 rfl) (ag rfl)) rfl ?_)
 exact ⟨rfl,hm.below⟩
theorem Vz (n m:Int) (V M c:Int) (hv:DX V M=true) (hM0:0<=M) (hM:M<=4) (c0:0<=c) (c1:c<=255) (hV:V<=m) (hb:m<=65536) (hd:EZ M c=true) (w:World):Calls Tryz.prog 140 #[.int .i64 n,.agg (MS 2 V M m 0 0 0),.int .u8 c] w (RB w (.tuple #[.agg (MS 3 0 0 m (D5 V M c) 0 0),.bool (EL V M c m)])):=by
 have CG:=fun w=>hgrow V M c m hv hM0 hM (by omega) c0 c1 w
 simp only [hd] at CG
 have CG:=Lib.hid CG
 clear hv
 generalize D5 V M c=x at *
 generalize EM M c=y at *
 generalize EL V M c m=z at *
 clear hd
 go_enter Tryz.func140,Tryz.ntmps140
 have hm:=Own.nil w
 go_wp2_with (first
  |(go_at_call 137;refine cB (CG.out _) hm ?_;clear hm;intro w1 hm)
  |(with_reducible refine wl _ 0 hm ?_)
  |(with_reducible refine wl _ 1 hm ?_)
  |(with_reducible refine wl _ 2 hm ?_)
  |(refine A8 rfl (ld2 0 hm rfl rfl rfl (ag rfl) rfl rfl) ?_)
  |(refine A8 rfl (ld2 1 hm rfl rfl rfl (ag rfl) rfl rfl) ?_)
  |(with_reducible refine wla _ 2 hm ?_)
  |(with_reducible refine ws _ 0 hm ?_;clear hm;intro w hm)
  |(with_reducible refine ws _ 1 hm ?_;clear hm;intro w hm)
  |(with_reducible refine ws _ 2 hm ?_;clear hm;intro w hm)
  |(with_reducible refine wu _ 2 hm ?_;clear hm;intro w hm)
  |(with_reducible refine wa _ hm Ja ?_;clear hm;intro w g hm)
  |(with_reducible refine wa _ hm H9 ?_;clear hm;intro w g hm)
  |(with_reducible refine wb hm ?_;clear hm;intro w g hm))
 (refine bodyPost_ret (Af rfl rfl (hm.row 1 rfl) (ag rfl)) rfl ?_)
 exact ⟨rfl,hm.below⟩
theorem Z9 (n m:Int) (V M c:Int) (hv:DX V M=true) (hM0:0<=M) (hM:M<=4) (c0:0<=c) (c1:c<=255) (hV:V<=m) (hb:m<=65536) (hd:EZ M c=false) (w:World):Calls Tryz.prog 140 #[.int .i64 n,.agg (MS 2 V M m 0 0 0),.int .u8 c] w (RB w (.tuple #[.agg (MS 2 (D5 V M c) (EM M c) m 0 0 0),.bool (EL V M c m)])):=by
 have CG:=fun w=>hgrow V M c m hv hM0 hM (by omega) c0 c1 w
 simp only [hd] at CG
 have CG:=Lib.hid CG
 clear hv
 generalize D5 V M c=x at *
 generalize EM M c=y at *
 generalize EL V M c m=z at *
 clear hd
 go_enter Tryz.func140,Tryz.ntmps140
 have hm:=Own.nil w
 go_wp2_with (first
  |(go_at_call 137;refine cB (CG.out _) hm ?_;clear hm;intro w1 hm)
  |(with_reducible refine wl _ 1 hm ?_)
  |(refine A8 rfl (ld2 0 hm rfl rfl rfl (ag rfl) rfl rfl) ?_)
  |(refine A8 rfl (ld2 1 hm rfl rfl rfl (ag rfl) rfl rfl) ?_)
  |(with_reducible refine wla _ 2 hm ?_)
  |(with_reducible refine ws _ 0 hm ?_;clear hm;intro w hm)
  |(with_reducible refine ws _ 1 hm ?_;clear hm;intro w hm)
  |(with_reducible refine wu _ 2 hm ?_;clear hm;intro w hm)
  |(with_reducible refine wa _ hm Ja ?_;clear hm;intro w g hm)
  |(with_reducible refine wa _ hm H9 ?_;clear hm;intro w g hm)
  |(with_reducible refine wb hm ?_;clear hm;intro w g hm))
 (refine bodyPost_ret (Af rfl rfl (hm.row 1 rfl) (ag rfl)) rfl ?_)
 exact ⟨rfl,hm.below⟩
theorem or8 (s c:Int) (s0:0<=s) (s1:s < 16777216) (c0:0<=c) (c1:c<=255):bits .or .u32 (s * 256) c=s * 256+c :=
 bits_join .u32 32 (by decide) (fun n h0 h1=>IntWalk.u32_in n (by omega)) 8 (s * 256) c (by omega) (by omega) (by omega) c0 (by omega) (by omega)
theorem qW (n a m p s k c:Int) (a0:0<=a) (a1:a<=6) (k0:0<=k) (hk:k < 3) (s0:0<=s) (s1:s < 16777216) (c0:0<=c) (c1:c<=255) (w:World):Calls Tryz.prog 141 #[.int .i64 n,.agg (MS a 0 0 m p s k),.int .u8 c] w (RB w (.tuple #[.agg (MS a 0 0 m p (s * 256+c) (k+1)),.bool true])):=by
 have q1:(k+1 == 4)=false:=by simp;omega
 have HO:=Lib.hid (or8 s c s0 s1 c0 c1)
 go_enter Tryz.func141,Tryz.ntmps141
 have hm:=Own.nil w
 go_wp2_with (first
  |(with_reducible refine wl _ 1 hm ?_)
  |(with_reducible refine wla _ 1 hm ?_)
  |(refine Ad rfl (AZ 1 hm rfl rfl (Ac rfl) rfl (ot rfl) (by simp) rfl rfl rfl ?_);clear hm;intro w hm;try simp only [puts,s2,List.set,List.eraseIdx,s3] at hm)
  |(with_reducible refine ws _ 0 hm ?_;clear hm;intro w hm)
  |(with_reducible refine wa _ hm H9 ?_;clear hm;intro w g hm)
  |(with_reducible refine wb hm ?_;clear hm;intro w g hm))
 (refine bodyPost_ret (Af rfl rfl (hm.row 0 rfl) (ag rfl)) rfl ?_)
 exact ⟨by rw [<- HO.out];rfl,hm.below⟩
theorem iq (n a m p s k c:Int) (a0:0<=a) (a1:a<=6) (k0:0<=k) (hk:k=3) (s0:0<=s) (s1:s < 16777216) (c0:0<=c) (c1:c<=255) (w:World):Calls Tryz.prog 141 #[.int .i64 n,.agg (MS a 0 0 m p s k),.int .u8 c] w (RB w (.tuple #[.agg (MS (a+1) 0 0 m p (s * 256+c) (k+1)),.bool true])):=by
 subst hk
 have HO:=Lib.hid (or8 s c s0 s1 c0 c1)
 go_enter Tryz.func141,Tryz.ntmps141
 have hm:=Own.nil w
 go_wp2_with (first
  |(with_reducible refine wl _ 1 hm ?_)
  |(with_reducible refine wla _ 1 hm ?_)
  |(refine Ad rfl (AZ 1 hm rfl rfl (Ac rfl) rfl (ot rfl) (by simp) rfl rfl rfl ?_);clear hm;intro w hm;try simp only [puts,s2,List.set,List.eraseIdx,s3] at hm)
  |(with_reducible refine ws _ 0 hm ?_;clear hm;intro w hm)
  |(with_reducible refine wa _ hm H9 ?_;clear hm;intro w g hm)
  |(with_reducible refine wb hm ?_;clear hm;intro w g hm))
 (refine bodyPost_ret (Af rfl rfl (hm.row 0 rfl) (ag rfl)) rfl ?_)
 exact ⟨by rw [<- HO.out];rfl,hm.below⟩
set_option maxHeartbeats 1000000
set_option maxRecDepth 100000
variable {l m:List Int}
def cn0 (l:List Int) (n:Nat):Int:=if n=0 then 0 else gi (Ji l) n
def pfc (l:List Int):Nat->Int
|0=>0
|n+1=>(pfc l n+cn0 l n) * 2
theorem YX (hl:l.length=258) (hb:Bytes l):(Ji l).length=16/\∀ x ∈ Ji l,0<=x/\x<=258:=by
 have h:=QU l hb l.length (Nat.le_refl _)
 rw [List.take_length,hl] at h
 exact h
theorem Jq (hl:l.length=258) (hb:Bytes l) (n:Nat) (hn:n < 16):0<=cn0 l n/\cn0 l n<=258:=by
 rw [cn0]
 split
 ·omega
 ·obtain ⟨h1,h2⟩:=YX hl hb
  exact h2 _ (by rw [BZ _ n (by omega)];exact List.getElem_mem _)
theorem Jf {l:List Int} (hl:l.length=258) (hb:Bytes l):∀ n:Nat,n<=16->0<=pfc l n/\pfc l n<=1000 * (2 ^ n - 1)
|0,_=>by simp [pfc]
|n+1,h=>by
  have h1:=Jf hl hb n (by omega)
  have h2:=Jq hl hb n (by omega)
  have h3:(1:Int)<=2 ^ n:=Int.le_of_lt_add_one (by have:(0:Int) < 2 ^ n:=Int.pow_pos (by decide);omega)
  rw [pfc,Int.pow_succ]
  omega
def c16 (l:List Int):List Int:=(Ji l).set 0 0
theorem A2q (h:(Ji l).length=16) (n:Nat):gi (c16 l) n=cn0 l n:=by
 rw [c16,DY (by omega),cn0]
theorem zN (h:l.length=16) (k:m.length=16):(J .i64 l).size=(J .i64 m).size:=by rw [Df,Df,h,k]
theorem first_any (l:List Int) (bits:Nat) (w0:World) (hl:l.length=258) (hb:Bytes l) (hn:bits<=15):Calls Tryz.prog 171 #[.agg (J .u8 l),.int .i64 bits] w0 (RB w0 (.tuple #[.int .i64 (pfc l bits),.int .i64 (cn0 l bits)])):=by
 have HL:=Lib.hid hl
 have hk:=YX hl hb
 have HK:=Lib.hid hk.1
 have HC:=Lib.hid (show (c16 l).length=16 by rw [c16,List.length_set];exact hk.1)
 have CC:=Lib.hid (fun w=>TN l w hl hb)
 have HS:Hid ((J .i64 (Ji l)).setIfInBounds 0 (.int .i64 0)=J .i64 (c16 l)):=Lib.hid (Y0 .i64 _ 0 0)
 have HP:Hid (∀ n:Nat,n<=16->0<=pfc l n/\pfc l n<=1000 * (2 ^ n - 1)):=Lib.hid (Jf hl hb)
 have HN:Hid (∀ n:Nat,n < 16->0<=cn0 l n/\cn0 l n<=258):=Lib.hid (Jq hl hb)
 have HG:Hid (∀ n:Nat,n < 16->(J .i64 (c16 l))[n]?=some (.int .i64 (cn0 l n))):=Lib.hid fun n h=>by rw [XC .i64 _ n (by rw [HC.out];exact h),A2q HK.out]
 clear hl hb hk
 generalize c16 l=c at *
 generalize Ji l=c0 at *
 go_enter Tryz.func171,Tryz.ntmps171
 have hm:=Own.nil w0
 go_wp2_with (first
 |(go_at_call 214;refine cB (CC.out _) hm ?_;clear hm;intro w1 hm)
 |(with_reducible refine wb hm ?_;clear hm;intro w g hm)
 |(with_reducible refine gAl ?_;(with_reducible refine wa _ hm gQ ?_;clear hm;intro w g2 hm))
 |(with_reducible refine wla 139 0 hm ?_ (ht:=(by with_unfolding_all exact F5 HL.out)))
 |(with_reducible refine ws 296 0 hm ?_ (ht:=(by with_unfolding_all exact A0R HK.out)) (hs:=(by with_unfolding_all exact zN HK.out (List.length_replicate ..))) (h1:=(by with_unfolding_all exact J_one _ _));clear hm;intro w hm)
 |(with_reducible refine gSt (t:=3) ?_;(refine Ad rfl (AZ 0 hm rfl rfl UU rfl (ot rfl) (by rw [Df,HK.out];decide) rfl rfl HS.out ?_);clear hm;intro w hm;try simp only [puts,s2,List.set] at hm)))
 go_loopw [4,7] (fun z u wr=>∃ k:Nat,k<=bits/\u=.int .i64 (k+1)/\z=.int .i64 (pfc l k)/\Own w0 wr [(g2,J .i64 c),(g,J .u8 l)] []) (fun _ u _=>bits+1 - (intOf u).toNat)
 case atStart=>exact ⟨0,by omega,rfl,rfl,hm⟩
 case round =>
  clear hm
  obtain ⟨k,hk,rfl,rfl,hm⟩:=hrel
  by_cases hlt:k < bits
  ·have q1:decide ((k:Int)+1<=bits)=true:=decide_eq_true (by omega)
   have h1:=HP.out k (by omega)
   have h2:=HN.out k (by omega)
   have h3:(2:Int) ^ k<=2 ^ 16:=by exact_mod_cast Nat.pow_le_pow_right (show 0 < 2 by decide) (show k<=16 by omega)
   have e1:IntKind.i64.wrap ((k:Int)+1 - 1)=k:=by rw [IntWalk.i64_in _ (by omega)];omega
   have w1:IntKind.i64.wrap (pfc l k+cn0 l k)=pfc l k+cn0 l k:=IntWalk.i64_in _ (by omega)
   have w2:IntKind.i64.wrap ((pfc l k+cn0 l k) * 2)=(pfc l k+cn0 l k) * 2:=IntWalk.i64_in _ (by omega)
   have w3:IntKind.i64.wrap ((k:Int)+1+1)=(k:Int)+1+1:=IntWalk.i64_in _ (by omega)
   have hci:=HG.out k (by omega)
   have HE:Hid (pfc l (k+1)=(pfc l k+cn0 l k) * 2):=Lib.hid rfl
   have hk16:k < 16:=by omega
   clear h1 h2 h3
   generalize pfc l k=x at *
   generalize cn0 l k=y at *
   go_wp2_with (first
    |(with_reducible refine wl 3 0 hm ?_ (hv:=(by with_unfolding_all exact hci))))
   go_roundw
   case rel=>exact ⟨k+1,by omega,by go_num,by rw [HE.out],hm⟩
   case measure=>simp [intOf];omega
  ·obtain rfl:bits=k:=by omega
   have q1:decide ((bits:Int)+1<=bits)=false:=decide_eq_false (by omega)
   have hci:=HG.out bits (by omega)
   have hk16:bits < 16:=by omega
   go_upto_region 7 with fail
   refine rO hm 6 (.rds [(0,false),(1,false),(2,false),(3,true),(4,false),(5,false)] .done) ?_
   clear hm
   intro w hm
   simp only [KT.rds]
   iterate 2 refine kq ?_
   (refine K_p rfl rfl (fun W=>by go_simp;rw [if_pos (by omega)]) ?_)
   try simp only [Act.put,s3]
   refine km (fun W hm=>ld 0 hm rfl rfl rfl (ot rfl) hci) ?_
   iterate 2 refine kq ?_
   refine Ba ?_
   go_simp
   go_wp2
   go_ret2
   exact ⟨rfl,hm.below⟩
set_option maxHeartbeats 400000
variable {a:Act} {cs ns zc:Array Value} {b c:Int} {l:List Int} {k n off:Nat} {o:Oper} {x y z:Operand} {t:TypeId} {w:World}
theorem VE (off:Nat):∀ (vs:List Value) (j:Nat) (cs:Array Value),(vs.zipIdx j).foldl (fun (cs:Array Value) (c:Value × Nat)=>cs.setIfInBounds (off+c.2) c.1) cs=puts cs (off+j) vs
|[],_,_=>rfl
|v::vs,j,cs=>by rw [List.zipIdx_cons,List.foldl_cons,VE off vs (j+1),puts];rfl
theorem wF {places:Nat->Option (Nat × Nat)} (vs:List Value) {v:Value} {rest:List (Nat × Value)} (hp:places k=some (off,n)) (hv:v.cells=vs.toArray) (hn:vs.length=n) (hf:off+n<=cs.size) (hs:splice cs off vs.toArray=ns) :
  Instr.fill places cs ((k,v)::rest)=Instr.fill places ns rest:=by
 subst hn
 simp only [Instr.fill,hp,hv]
 split
 ·rename_i h;simp at h;omega
 rw [<- hs,Qg cs off vs hf]
 congr 1
 have h:=VE off vs 0 cs
 rw [Nat.add_zero] at h
 rw [<- h,<- Array.foldl_toList,Array.toList_zipIdx]
theorem Zj {places:Nat->Option (Nat × Nat)} (vs:List Value) {rest:List (Nat × Value)} (hp:places k=some (off,n)) (hn:vs.length=n) (hf:off+n<=cs.size) (hs:splice cs off vs.toArray=ns) :
  Instr.fill places cs ((k,.agg vs.toArray)::rest)=Instr.fill places ns rest:=wF vs hp rfl hn hf hs
theorem VG {places:Nat->Option (Nat × Nat)} {v:Value} {rest:List (Nat × Value)} (hp:places k=some (off,1)) (hv:v.cells=#[v]) (hf:off < cs.size) (hs:cs.setIfInBounds off v=ns) :
  Instr.fill places cs ((k,v)::rest)=Instr.fill places ns rest:=by
 simp only [Instr.fill,hp,hv]
 split
 ·rename_i h;simp at h;omega
 rw [<- hs]
 rfl
theorem VT {places:List (Nat × Nat)} (hu:Tryz.prog.underlying t=some (.struct (Tryz.prog.fieldsOf t))) (hf:(Tryz.prog.fieldsOf t).toList.mapM (fun f=>(Tryz.prog.info? f.type).map fun i=>(f.offset,i.size))=some places) (hz:∀ w,(zeroValue t).run Tryz.prog w=.ok (.agg zc) w) (hi:(Tryz.prog.info? t).isSome=true) (w:World)
  (parts:List (Nat × Value)):Tryz.prog.built t parts=Instr.fill (places.toArray[·]?) zc parts:=by
 obtain ⟨i,hi⟩:=Option.isSome_iff_exists.1 hi
 have hzi:i.zero=some (.agg zc):=by
  have:=hz w
  simp [zeroValue,typeInfo,hi] at this
  cases hzz:i.zero with
 |none=>simp [hzz] at this
 |some z=>simp [hzz] at this;rw [this]
 unfold Program.built
 rw [hi,hu]
 simp only [hzi,hf]
 rfl
theorem MO (ho:o.op=.build 143 #[(0,x)]) (hx:a.eval x=.agg (J .u8 l)) (hl:l.length=258):(execOp a.eval o).run Tryz.prog w=.ok (.value (.agg (CS l 0 0))) w:=by
 refine Dq ho ?_
 rw [VT (places:=[(0,258),(258,1),(259,1)]) (by kernel_rfl) (by kernel_rfl) QA (by kernel_rfl) w]
 simp only [List.map_toArray,List.map_cons,List.map_nil,hx]
 rw [show J .u8 l=(vs .u8 l).toArray from rfl,Zj (vs .u8 l) rfl (by rw [Ai,hl]) (by rw [CU Az];omega) (aA Az hl)]
 rfl
theorem Kq (ho:o.op=.build 143 #[(0,x),(1,y),(2,z)]) (hx:a.eval x=.agg (J .u8 l)) (hy:a.eval y=.int .i64 c) (hz:a.eval z=.int .i64 b) (hl:l.length=258):(execOp a.eval o).run Tryz.prog w=.ok (.value (.agg (CS l c b))) w:=by
 refine Dq ho ?_
 rw [VT (places:=[(0,258),(258,1),(259,1)]) (by kernel_rfl) (by kernel_rfl) QA (by kernel_rfl) w]
 simp only [List.map_toArray,List.map_cons,List.map_nil,hx,hy,hz]
 rw [show J .u8 l=(vs .u8 l).toArray from rfl,Zj (vs .u8 l) rfl (by rw [Ai,hl]) (by rw [CU Az];omega) (aA Az hl),VG rfl rfl (A13 hl) (yU hl c),VG rfl rfl (A15 hl) (yV hl b)]
 rfl
set_option maxHeartbeats 1000000
set_option maxRecDepth 100000
def pof:List Int->Int->Int->Int->Int
|[],_,_,_=>0
|n::r,b,p,s=>if n=b then if p=0 then s else pof r b (p - 1) (s+1) else pof r b p (s+1)
theorem A26 (l:List Int) (b p:Int) (w0:World) (hl:l.length=258) (hb:Bytes l) (p0:0<=p) (p1:p<=1000000):Calls Tryz.prog 172 #[.agg (J .u8 l),.int .i64 b,.int .i64 p] w0 (RB w0 (.int .i64 (pof l b p 0))):=by
 have HB:=Lib.hid hb
 have HL:=Lib.hid hl
 obtain ⟨r,hr⟩:∃ r,r=pof l b p 0:=⟨_,rfl⟩
 rw [<- hr]
 have HR:=Lib.hid hr
 clear hb hr
 go_enter Tryz.func172,Tryz.ntmps172
 have hm:=Own.nil w0
 go_wp2_with (first
 |(with_reducible refine wb hm ?_;clear hm;intro w g hm)
 |(with_reducible refine wla 139 0 hm ?_ (ht:=(by with_unfolding_all exact F5 HL.out))))
 go_loopw [2,10] (fun z u wr=>∃ (k:Nat) (q:Int),k<=258/\0<=q/\q<=1000000/\u=.int .i64 k/\z=.int .i64 q/\r=pof (l.drop k) b q k/\Own w0 wr [(g,J .u8 l)] []) (fun _ u _=>258 - (intOf u).toNat)
 case atStart=>exact ⟨0,p,by omega,p0,p1,rfl,rfl,HR.out,hm⟩
 case round =>
  clear hm
  obtain ⟨k,q,hk,q0,q1,rfl,rfl,hr,hm⟩:=hrel
  by_cases hlt:k < 258
  ·have hkl:k < l.length:=by rw [HL.out];exact hlt
   have hg:(J .u8 l)[k]?=some (.int .u8 (gi l k)):=XC .u8 l k hkl
   have hx:=HB.out _ (show gi l k ∈ l by rw [BZ l k hkl];exact List.getElem_mem _)
   rw [List.drop_eq_getElem_cons hkl,<- BZ l k hkl,pof] at hr
   have w1:IntKind.i64.wrap (gi l k)=gi l k:=IntWalk.i64_in _ (by omega)
   clear hx hkl
   generalize gi l k=x at *
   by_cases he:x=b
   ·subst he
    rw [if_pos rfl] at hr
    by_cases hz:q=0
    ·subst hz
     rw [if_pos rfl] at hr
     have HRR:=Lib.hid hr
     clear hr
     go_wp2_with (first
     |(with_reducible refine gIx ?_;(refine A8 rfl (DZ rfl rfl rfl Tryz.underlying139 FV hlt hg) ?_)))
     go_ret
     exact ⟨by rw [HRR.out];rfl,hm.below⟩
    ·rw [if_neg hz] at hr
     have HRR:=Lib.hid hr
     have z1:(q == 0)=false:=by simpa using hz
     have w2:IntKind.i64.wrap (q - 1)=q - 1:=IntWalk.i64_in _ (by omega)
     have q2:0<=q - 1:=by omega
     clear hr hz
     go_wp2_with (first
     |(with_reducible refine gIx ?_;(refine A8 rfl (DZ rfl rfl rfl Tryz.underlying139 FV hlt hg) ?_)))
     go_roundw
     case rel=>exact ⟨k+1,q - 1,by omega,q2,by omega,by go_num,rfl,HRR.out,hm⟩
     case measure=>simp [intOf];omega
   ·rw [if_neg he] at hr
    have HRR:=Lib.hid hr
    have z1:(x == b)=false:=by simpa using he
    have z2:(x != b)=true:=by simpa using he
    clear hr he
    go_wp2_with (first
    |(with_reducible refine gIx ?_;(refine A8 rfl (DZ rfl rfl rfl Tryz.underlying139 FV hlt hg) ?_)))
    go_roundw
    case rel=>exact ⟨k+1,q,by omega,q0,q1,by go_num,rfl,HRR.out,hm⟩
    case measure=>simp [intOf];omega
  ·obtain rfl:k=258:=by omega
   rw [List.drop_of_length_le (by rw [HL.out];exact Nat.le_refl _),pof] at hr
   have HRR:=Lib.hid hr
   clear hr
   go_wp2
   go_ret
   exact ⟨by rw [HRR.out];rfl,hm.below⟩
theorem Dn {l m:List Int} {c b c' b':Int} (h:l.length=258) (k:m.length=258):(CS l c b).size=(CS m c' b').size:=by rw [CU h,CU k]
theorem Yh (l:List Int) (hl:l.length=258) (hb:Bytes l) (hk:JL l=true) (w:World):Calls Tryz.prog 127 #[.agg (J .u8 l)] w (RB w (.tuple #[.agg (CS l 0 0),.int .i64 0])):=by
 have HL:=Lib.hid hl
 have CT:=Lib.hid (fun w=>table_any l w hl hb)
 rw [hk] at CT
 clear hl hb hk
 go_enter Tryz.func127,Tryz.ntmps127
 have hm:=Own.nil w
 go_wp2_with (first
  |(go_at_call 168;refine cB (CT.out _) hm ?_;clear hm;intro w1 hm)
  |(with_reducible refine wb hm ?_;clear hm;intro w g hm)
  |(with_reducible refine gAl ?_;(with_reducible refine wa _ hm QA ?_;clear hm;intro w g hm))
  |(with_reducible refine wla 139 1 hm ?_ (ht:=(by with_unfolding_all exact F5 HL.out)))
  |(with_reducible refine gBu ?_;(refine A8 rfl (MO rfl rfl HL.out) ?_))
  |(with_reducible refine ws 143 0 hm ?_ (ht:=(by with_unfolding_all exact DT HL.out)) (hs:=(by with_unfolding_all exact Dn HL.out Az)) (h1:=(by with_unfolding_all exact Eb _ _ _));clear hm;intro w hm))
 refine bodyPost_ret (Af rfl rfl (hm.row 0 rfl) (DT HL.out)) rfl ⟨rfl,hm.below⟩
set_option maxHeartbeats 1000000
set_option maxRecDepth 100000
theorem RN (l:List Int) (c:Int) (n:Nat) (w0:World) (hl:l.length=258) (hb:Bytes l) (hk:JL l=true) (hn:n < 15) (c0:0<=c) (c1:c < 2 ^ n) (hc:pfc l n+cn0 l n<=c):Calls Tryz.prog 170 #[.agg (CS l c n)] w0 (fun e w'=>(e=.returned (.bool true))/\Below w0.heap.size w0 w'):=by
 have HL:=Lib.hid hl
 have CT:=Lib.hid (fun w=>table_any l w hl hb)
 have CF:=Lib.hid (fun w=>first_any l n w hl hb (by omega))
 rw [hk] at CT
 have b1:=Jf hl hb n (by omega)
 have b2:=Jq hl hb n (by omega)
 have h3:(2:Int) ^ n<=2 ^ 16:=by exact_mod_cast Nat.pow_le_pow_right (show 0 < 2 by decide) (show n<=16 by omega)
 have w1:IntKind.i64.wrap (pfc l n+cn0 l n)=pfc l n+cn0 l n:=IntWalk.i64_in _ (by omega)
 have q1:decide ((n:Int) < 0)=false:=decide_eq_false (by omega)
 have q2:decide (15<=(n:Int))=false:=decide_eq_false (by omega)
 have q3:decide (c < 0)=false:=decide_eq_false (by omega)
 have q4:decide (pfc l n+cn0 l n<=c)=true:=decide_eq_true hc
 have e1:c / 2 ^ n=0:=Int.ediv_eq_zero_of_lt c0 c1
 clear hl hb hk b1 b2 h3 hc c1
 generalize pfc l n=x at *
 generalize cn0 l n=y at *
 go_enter Tryz.func170,Tryz.ntmps170
 have hm:=Own.nil w0
 go_wp2_with (first
  |(go_at_call 168;refine cB (CT.out _) hm ?_;clear hm;intro w1 hm)
  |(go_at_call 171;refine cB (CF.out _) hm ?_;clear hm;intro w1 hm)
  |(with_reducible refine wb hm ?_;clear hm;intro w g hm)
  |(with_reducible refine wl 3 0 hm ?_ (hv:=(by with_unfolding_all (first|exact (LZ HL.out)|exact (Mc HL.out)))))
  |(with_reducible refine gLd (t:=139) ?_;(refine A8 rfl (ldp 0 hm rfl rfl rfl (II HL.out) (F5 HL.out) (IJ HL.out)) ?_)))
 go_ret
 exact ⟨rfl,hm.below⟩
set_option maxHeartbeats 1000000
set_option maxRecDepth 100000
theorem sJ (a n b m:Nat) (hz:m=0) (hn:1<=n) (w:World):Calls Tryz.prog 163 #[.agg (SP a n),.agg (SP b m)] w (RB w (.bool true)):=by
 subst hz
 have q0:((n:Int) == 0)=false:=by simp;omega
 clear hn
 go_enter Tryz.func163,Tryz.ntmps163
 have hm:=Own.nil w
 go_wp2_with (first
  |(with_reducible refine wb hm ?_;clear hm;intro w g hm)
  |(with_reducible (first|refine wl 3 0 hm ?_ (hv:=(by with_unfolding_all (first|exact (SP0 _ _)|exact (SP1 _ _))))|refine wl 3 1 hm ?_ (hv:=(by with_unfolding_all (first|exact (SP0 _ _)|exact (SP1 _ _))))))
  |(with_reducible (first|refine wla 50 0 hm ?_ (ht:=(by with_unfolding_all exact Eo _ _))|refine wla 50 1 hm ?_ (ht:=(by with_unfolding_all exact Eo _ _)))))
 go_ret
 exact ⟨rfl,hm.below⟩
theorem sK (a n b m:Nat) (hz:1<=m) (hn:1<=n) (ha:a+n<=b) (hb:b<=1048576) (w:World):Calls Tryz.prog 163 #[.agg (SP a n),.agg (SP b m)] w (RB w (.bool true)):=by
 have q0:((n:Int) == 0)=false:=by simp;omega
 have q1:((m:Int) == 0)=false:=by simp;omega
 have w1:IntKind.i64.wrap ((a:Int)+n)=(a:Int)+n:=IntWalk.i64_in _ (by omega)
 have q2:decide ((a:Int)+n<=b)=true:=decide_eq_true (by omega)
 clear hn hz ha hb
 go_enter Tryz.func163,Tryz.ntmps163
 have hm:=Own.nil w
 go_wp2_with (first
  |(with_reducible refine wb hm ?_;clear hm;intro w g hm)
  |(with_reducible (first|refine wl 3 0 hm ?_ (hv:=(by with_unfolding_all (first|exact (SP0 _ _)|exact (SP1 _ _))))|refine wl 3 1 hm ?_ (hv:=(by with_unfolding_all (first|exact (SP0 _ _)|exact (SP1 _ _))))))
  |(with_reducible (first|refine wla 50 0 hm ?_ (ht:=(by with_unfolding_all exact Eo _ _))|refine wla 50 1 hm ?_ (ht:=(by with_unfolding_all exact Eo _ _)))))
 go_ret
 exact ⟨rfl,hm.below⟩
theorem lN (a n b m:Nat) (hn:1<=n) (ha:a+n<=b) (hb:b<=1048576) (w:World):Calls Tryz.prog 163 #[.agg (SP a n),.agg (SP b m)] w (RB w (.bool true)):=by
 by_cases h:m=0
 ·exact sJ a n b m h hn w
 ·exact sK a n b m (by omega) hn ha hb w
theorem ri {k:IntKind} {a b:Int} (h:a=b):Ending.returned (.int k a)=.returned (.int k b):=by rw [h]
theorem sF (n d q:Nat) (hqd:q=n / d) (h1:n<=65536) (h2:1<=d) (h3:d<=65536) (w:World):Calls Tryz.prog 164 #[.int .i64 n,.int .i64 d] w fun x w'=>(x=.returned (.int .i64 ((1024 * q:Nat):Int)))/\w'=w:=by
 have hq:q<=n:=by rw [hqd];exact Nat.div_le_self n d
 have e1:(n:Int).tdiv d=(q:Int):=by rw [hqd];rfl
 have e2:(n:Int) / d=(q:Int):=by rw [hqd];rfl
 clear hqd
 have w1:wi n 0 65536=true:=Eu (by omega) (by omega)
 have w2:wi d 1 65536=true:=Eu (by omega) (by omega)
 have q0:((d:Int) == 0)=false:=by simp;omega
 have q0b:(d:Int) ≠ 0:=by omega
 have w3:IntKind.i64.wrap (q:Int)=(q:Int):=IntWalk.i64_in _ (by omega)
 have w4:IntKind.i64.wrap ((q:Int) * 1024)=((1024 * q:Nat):Int):=by rw [IntWalk.i64_in _ (by omega)];push_cast;omega
 go_enter Tryz.func164,Tryz.ntmps164
 go_wp2_with (first
  |(go_at_call 119;refine (QK _ _ _ _).mono ?_;rintro e w1 ⟨rfl,rfl⟩))
 go_ret
 exact ⟨ri (by push_cast;omega),rfl⟩
end Go.Proofs.YtkpbhdhkdonghaaGreat
