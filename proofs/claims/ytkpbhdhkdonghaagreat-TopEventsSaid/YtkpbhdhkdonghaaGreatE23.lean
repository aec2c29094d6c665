/-
  Part 23 of the proof.
-/
import Derived.WalkMore
import Derived.ScopeJumps
import Derived.Test.YtkpbhdhkdonghaaGreatE06
import Derived.Test.YtkpbhdhkdonghaaGreatE08
import Derived.Test.YtkpbhdhkdonghaaGreatE10
import Derived.Test.YtkpbhdhkdonghaaGreatE11
import Derived.Test.YtkpbhdhkdonghaaGreatE13
import Derived.Test.YtkpbhdhkdonghaaGreatE21
import Derived.Test.YtkpbhdhkdonghaaGreatE22
set_option linter.all false
namespace Go.Proofs.YtkpbhdhkdonghaaGreat
set_option maxHeartbeats 2000000
set_option maxRecDepth 100000
open Go Go.RowKit
variable {ss:List Sl} {a b:Nat × Array Value} {rs:Rws} {w w0:World}
def MR.st:MR->Array Value
|.block m p s=>MS 4 0 0 m p s 4
|.tail s=>MS 6 0 0 0 0 s 4
|_=>MS 0 0 0 0 0 0 0
def yN (w0:World) (o:Option (MR × List Int)) (rs:Rws) (ss:List Sl) (x:Ending) (w':World):Prop:=match o with
|none=>∃ e,e ≠ 0/\x=.returned (.tuple #[.agg (MS 0 0 0 0 0 0 0),.slice none 0 0,.int .i64 e])/\Own w0 w' rs ss
|some (r,R)=>∃ X v,x=.returned (.tuple #[.agg r.st,v,.int .i64 0])/\Lies 1 X v R.length (vs .u8 R)/\Own w0 w' (X++rs) ss
theorem Own.unX2 {X:Rws} (h:Own w0 w (X++(a::b::rs)) ss):Own w0 w (a::b::(X++rs)) ss:=h.perm (by
 have e:(X++([a,b]++rs)).Perm ([a,b]++(X++rs)):=by
  rw [<- List.append_assoc,<- List.append_assoc]
  exact List.Perm.append_right _ List.perm_append_comm
 exact e.symm)
theorem Own.A1t {X:Rws} (h:Own w0 w (a::b::(X++rs)) ss):Own w0 w (a::b::rs) ss:=h.sub (List.Sublist.cons_cons _ (List.Sublist.cons_cons _ (List.sublist_append_right X rs))) (List.Sublist.refl _)
theorem VB (v:Value) (n:Int) (n1:1<=n) (n2:n<=65536) (l:List Int) (w0 w:World) (rs:Rws) (ss:List Sl) (hm:Own w0 w rs ss) (hv:∀ W,Own w0 W rs ss->InC .u8 W v l) (hb:Bytes l) (hn:l.length<=1000):Calls Tryz.prog 46 #[.int .i64 n,v] w (yN w0 (BO n .mark l) rs ss):=by
 obtain ⟨ad,cp,rfl,hlc,_⟩:=hv w hm
 have HI:Hid (∀ W,Own w0 W rs ss->In .u8 W (.slice ad l.length cp) l):=Lib.hid fun W h=>(hv W h).zu
 have HC:Hid (∀ W,Own w0 W rs ss->∀ k,k < l.length->∃ A,ad=some A/\W.cell? (A.add k)=some (.int .u8 (gi l k))):=Lib.hid fun W h k hk=>by
  obtain ⟨ad2,cp2,he,hc⟩:=HI.out W h
  cases he
  exact hc k hk
 obtain ⟨i3,hE⟩:=Md
 have HE:=Lib.hid hE
 have HB:=Lib.hid hb
 have q0:wi n 1 65536=true:=by simp [wi,n1,n2]
 have CW:Hid (∀ w,Calls Tryz.prog 100 #[.int .i64 n,.int .i64 1,.int .i64 65536] w fun x w'=>(x=.returned (.bool true))/\w'=w):=Lib.hid fun w=>by
  have h:=FX n 1 65536 w
  rwa [q0] at h
 clear q0
 clear hE hb hv
 go_enter Tryz.func46,Tryz.ntmps46
 go_wp2_with (first
 |(with_reducible refine wa 88 hm FM ?_;clear hm;intro w g4 hm)
 |(go_at_call 100;refine (CW.out _).mono ?_;rintro x w1 ⟨rfl,rfl⟩))
 go_loopw [18] (fun u wr=>∃ (k:Nat) (t:MT),k<=l.length/\u=.int .i64 k/\t.ok n/\BO n .mark l=BO n t (l.drop k)/\Own w0 wr ((g4,t.v)::rs) ss) (fun u _=>l.length - (intOf u).toNat)
 case atStart=>exact ⟨0,.mark,by omega,rfl,trivial,rfl,hm⟩
 case round =>
  clear hm
  obtain ⟨k,t,hk,rfl,ht,hR,hm⟩:=hrel
  by_cases hlt:k < l.length
  ·obtain ⟨A,rfl,hA0⟩:=HC.out _ hm.dropRow k hlt
   have HA:Hid (∀ W (a:Nat × Array Value),Own w0 W (a::rs) ss->W.cell? (A.add k)=some (.int .u8 (gi l k))):=Lib.hid fun W a h=>by
    obtain ⟨A2,he,h2⟩:=HC.out _ h.dropRow k hlt
    cases he
    exact h2
   have CC:Hid (∀ W (a b:Nat × Array Value),Own w0 W (a::b::rs) ss->Calls Tryz.prog 99 #[.slice (D8 (some A) cp (k+1)) (l.length - (k+1)) (cp - (k+1))] W fun x w'=>∃ X v,x=.returned v/\Lies 1 X v (l.drop (k+1)).length (vs .u8 (l.drop (k+1)))/\Own w0 w' (a::b::(X++rs)) ss):=Lib.hid fun W a b h=>by
    refine (clone_any _ (l.drop (k+1)) W (In.from (HI.out _ h.dropRow.dropRow) (by omega) hlc) (by simp;omega)).mono fun x w' hx=>?_
    obtain ⟨X,v,rfl,hX,hm⟩:=h.ofB hx
    exact ⟨X,v,rfl,hX,hm.unX2⟩
   have hs:=HB.out (gi l k) (by rw [BZ l k hlt];exact List.getElem_mem _)
   have hk1:k+1<=l.length:=hlt
   rw [List.drop_eq_getElem_cons hlt,<- BZ l k hlt,BO] at hR
   have CN:=Lib.hid (fun w=>Vo n n1 n2 t ht (gi l k) hs.1 (by omega) w)
   have hok:=MT.step_ok n1 n2 ht hs.1 (show gi l k<=255 by omega)
   have HR:=Lib.hid hR
   clear hA0 hR hs
   obtain ⟨a,V,M,m,p,s,q,hv⟩:=MT.qK t
   rw [hv] at hm CN
   clear hv
   generalize gi l k=x at *
   generalize MT.step n x t=r at *
   cases r with
  |go t2 =>
    have hR:=HR.out
    clear HR CC
    have HN:Hid (BO n .mark l=BO n t2 (l.drop (k+1))/\t2.ok n):=Lib.hid ⟨hR,hok⟩
    clear hR hok ht
    obtain ⟨a2,V2,M2,m2,p2,s2,k2,hv2⟩:=MT.qK t2
    simp only [MR.val,hv2] at CN
    go_wp2_with (first
     |(with_reducible refine wa 88 hm FM ?_;clear hm;intro w g9 hm)
     |(go_at_call 101;refine cB (CN.out _) hm ?_;clear hm;intro w1 hm)
     |(with_reducible refine gIa (t:=22) ?_;(refine A8 rfl (Am rfl HE.out rfl rfl rfl hlt) ?_))
     |(with_reducible refine gLd (t:=5) ?_;(refine A8 rfl (AU rfl rfl FV (HA.out _ _ hm)) ?_))
     |(with_reducible refine wla 88 0 hm ?_)
     |(with_reducible (first|refine ws 88 0 hm ?_|refine ws 88 1 hm ?_);clear hm;intro w hm)
      )
    go_roundw
    case rel=>exact ⟨k+1,t2,by omega,by go_num,HN.out.2,HN.out.1,by rw [hv2];exact hm.dropRow⟩
    case measure=>simp [intOf];omega
  |block m2 p2 s2 =>
    have HN:Hid (BO n .mark l=some (MR.block m2 p2 s2,l.drop (k+1))):=Lib.hid (by rw [HR.out])
    clear HR hok ht
    simp only [MR.val] at CN
    go_upto_region 11 with (first
     |(with_reducible refine wa 88 hm FM ?_;clear hm;intro w g9 hm)
     |(go_at_call 101;refine cB (CN.out _) hm ?_;clear hm;intro w1 hm)
     |(with_reducible refine gIa (t:=22) ?_;(refine A8 rfl (Am rfl HE.out rfl rfl rfl hlt) ?_))
     |(with_reducible refine gLd (t:=5) ?_;(refine A8 rfl (AU rfl rfl FV (HA.out _ _ hm)) ?_))
     |(with_reducible refine wla 88 0 hm ?_)
     |(with_reducible (first|refine ws 88 0 hm ?_|refine ws 88 1 hm ?_);clear hm;intro w hm)
      )
    refine rO hm 6 (.rds [(0,true),(1,false),(2,false),(3,false),(4,false)] (.one 5 (.brk 6 9 (.rds [(7,false),(8,false)] .done)))) ?_
    clear hm
    intro w hm
    simp only [KT.rds]
    refine km (fun W hm=>lda 1 hm rfl rfl rfl (Gt _ _ _ _ _ _ _)) ?_
    iterate 2 refine kq ?_
    (refine K_p rfl rfl (fun W=>by go_simp;((rw [IntWalk.i64_in _ (by omega)];done))) ?_)
    try simp only [Act.put,s3]
    (refine K_p rfl rfl (fun W=>CY (l:=k+1) (h:=l.length) rfl HE.out rfl (.inr ⟨_,rfl⟩) (.inl ⟨rfl,rfl⟩) hk1 hlc) ?_)
    try simp only [Act.put,s3]
    refine DJ rfl rfl (fun K hK=>?_)
    go_simp
    refine (CC.out _ _ _ hm).mono ?_
    rintro e w1 ⟨X,v2,rfl,hX,hm⟩
    refine hK _ _ ⟨fun W=>Own _ W _ _,fun _ h=>h.A1t,hm,?_⟩
    clear hK K
    (refine Em rfl rfl (Aw 1 hm rfl rfl (Ac rfl) rfl (Gt _ _ _ _ _ _ _) (Na _ _ _ _ _ _ _ _ _ _ _ _ _ _ ) (EH _ _ _ _ _ _ _) ?_))
    clear hm
    intro w hm
    try simp only [puts,s2,List.set,List.eraseIdx,s3] at hm
    refine ⟨fun W=>Own _ W _ _,hm,?_⟩
    try simp only [Act.put,s3]
    iterate 2 refine kq ?_
    refine Ba ?_
    go_simp
    go_wp2
    refine bodyPost_ret (Ae rfl rfl (hm.row 1 rfl) (Gt _ _ _ _ _ _ _)) rfl ?_
    rw [HN.out]
    exact ⟨X,v2,rfl,hX,hm.dropRow.dropRow⟩
  |tail s2 =>
    have HN:Hid (BO n .mark l=some (MR.tail s2,l.drop (k+1))):=Lib.hid (by rw [HR.out])
    clear HR hok ht
    simp only [MR.val] at CN
    go_upto_region 11 with (first
     |(with_reducible refine wa 88 hm FM ?_;clear hm;intro w g9 hm)
     |(go_at_call 101;refine cB (CN.out _) hm ?_;clear hm;intro w1 hm)
     |(with_reducible refine gIa (t:=22) ?_;(refine A8 rfl (Am rfl HE.out rfl rfl rfl hlt) ?_))
     |(with_reducible refine gLd (t:=5) ?_;(refine A8 rfl (AU rfl rfl FV (HA.out _ _ hm)) ?_))
     |(with_reducible refine wla 88 0 hm ?_)
     |(with_reducible (first|refine ws 88 0 hm ?_|refine ws 88 1 hm ?_);clear hm;intro w hm)
      )
    refine rO hm 6 (.rds [(0,true),(1,false),(2,false),(3,false),(4,false)] (.one 5 (.brk 6 9 (.rds [(7,false),(8,false)] .done)))) ?_
    clear hm
    intro w hm
    simp only [KT.rds]
    refine km (fun W hm=>lda 1 hm rfl rfl rfl (Gt _ _ _ _ _ _ _)) ?_
    iterate 2 refine kq ?_
    (refine K_p rfl rfl (fun W=>by go_simp;((rw [IntWalk.i64_in _ (by omega)];done))) ?_)
    try simp only [Act.put,s3]
    (refine K_p rfl rfl (fun W=>CY (l:=k+1) (h:=l.length) rfl HE.out rfl (.inr ⟨_,rfl⟩) (.inl ⟨rfl,rfl⟩) hk1 hlc) ?_)
    try simp only [Act.put,s3]
    refine DJ rfl rfl (fun K hK=>?_)
    go_simp
    refine (CC.out _ _ _ hm).mono ?_
    rintro e w1 ⟨X,v2,rfl,hX,hm⟩
    refine hK _ _ ⟨fun W=>Own _ W _ _,fun _ h=>h.A1t,hm,?_⟩
    clear hK K
    (refine Em rfl rfl (Aw 1 hm rfl rfl (Ac rfl) rfl (Gt _ _ _ _ _ _ _) (Na _ _ _ _ _ _ _ _ _ _ _ _ _ _ ) (EH _ _ _ _ _ _ _) ?_))
    clear hm
    intro w hm
    try simp only [puts,s2,List.set,List.eraseIdx,s3] at hm
    refine ⟨fun W=>Own _ W _ _,hm,?_⟩
    try simp only [Act.put,s3]
    iterate 2 refine kq ?_
    refine Ba ?_
    go_simp
    go_wp2
    refine bodyPost_ret (Ae rfl rfl (hm.row 1 rfl) (Gt _ _ _ _ _ _ _)) rfl ?_
    rw [HN.out]
    exact ⟨X,v2,rfl,hX,hm.dropRow.dropRow⟩
  |bad =>
    have HN:Hid (BO n .mark l=none):=HR
    clear HR hok ht CC
    simp only [MR.val] at CN
    go_wp2_with (first
     |(with_reducible refine wa 88 hm FM ?_;clear hm;intro w g9 hm)
     |(go_at_call 101;refine cB (CN.out _) hm ?_;clear hm;intro w1 hm)
     |(with_reducible refine gIa (t:=22) ?_;(refine A8 rfl (Am rfl HE.out rfl rfl rfl hlt) ?_))
     |(with_reducible refine gLd (t:=5) ?_;(refine A8 rfl (AU rfl rfl FV (HA.out _ _ hm)) ?_))
     |(with_reducible refine wla 88 0 hm ?_)
     |(with_reducible (first|refine ws 88 0 hm ?_|refine ws 88 1 hm ?_);clear hm;intro w hm)
     |(with_reducible refine gBu (t:=88) ?_;(refine A8 rfl (Ir rfl) ?_)))
    refine bodyPost_ret (Ae rfl rfl (hm.row 1 rfl) (Gt _ _ _ _ _ _ _)) rfl ?_
    rw [HN.out]
    exact ⟨242,by decide,rfl,hm.dropRow.dropRow⟩
  ·obtain rfl:l.length=k:=by omega
   rw [List.drop_length,BO] at hR
   have HRR:=Lib.hid hR
   obtain ⟨a,V,M,m,p,s,q,hv⟩:=MT.qK t
   rw [hv] at hm
   clear hR hv
   go_wp2_with (first
    |(with_reducible refine gBu (t:=88) ?_;(refine A8 rfl (Ir rfl) ?_))
    |(with_reducible refine ws 88 0 hm ?_;clear hm;intro w hm))
   refine bodyPost_ret (Ae rfl rfl (hm.row 0 rfl) (Gt _ _ _ _ _ _ _)) rfl ?_
   rw [HRR.out]
   exact ⟨50,by decide,rfl,hm.dropRow⟩
set_option maxHeartbeats 400000
theorem VP {L:List Int}:∀ (l:List Int) (q:Int) (k:Nat) (b:DS) (out:List Int) (a:Nat) (last:List Int) (many:Nat),Dt L q k b l out a=some (last,many)->(last.length:Int)=out.length+b.left
|[],_,_,_,_,_,_,_,h=>by cases h
|x::r,q,k,b,out,a,last,many,h=>by
  rw [Dt] at h
  have ih:=VP (L:=L) r
  split at h
  ·split at h
   ·rename_i h0
    have hd:=Xv b _ h0
    split at h
    ·rename_i h1
     have:=hd.2.2 h1
     cases h
     rw [List.length_append]
     push_cast
     omega
    ·have h2:=ih _ _ _ _ _ _ _ h
     rw [List.length_append] at h2
     push_cast at h2
     omega
   ·cases h
  ·exact ih _ _ _ _ _ _ _ h
theorem wW {L l last:List Int} {m:Int} {many:Nat} (m1:1<=m) (m2:m<=65536) (h:Dt L 0 0 (dNew m) l [] 0=some (last,many)):(last.length:Int)=m:=by
 have:=VP l 0 0 (dNew m) [] 0 last many h
 rw [this,Oi (by omega) (by omega)]
 simp
theorem VO {L:List Int}:∀ (l:List Int) (q:Int) (k:Nat) (b:DS) (out:List Int) (a:Nat) (last:List Int) (many:Nat),Dt L q k b l out a=some (last,many)->many<=a+l.length
|[],_,_,_,_,_,_,_,h=>by cases h
|x::r,q,k,b,out,a,last,many,h=>by
  rw [Dt] at h
  have ih:=VO (L:=L) r
  simp only [List.length_cons]
  split at h
  ·split at h
   ·split at h
    ·cases h;omega
    ·have:=ih _ _ _ _ _ _ _ h;omega
   ·cases h
  ·have:=ih _ _ _ _ _ _ _ h;omega
theorem xH (R:List Int) (k:Nat):Bin (bitsOf R k):=by
 intro x hx
 obtain ⟨i,_,rfl⟩:=List.mem_map.1 hx
 exact KY R i
theorem xG {l:List Int} (h:Bin l) (k:Nat):Bin (l.drop k):=fun x hx=>h x (List.mem_of_mem_drop hx)
theorem ql {R:List Int} {j:Nat} (hj:j<=8 * R.length):(((bitsOf R (8 * R.length)).take (8 * ((j+7) / 8))).drop j).any (fun y=>decide (y=1))=!zpad R j:=by
 have hl:(bitsOf R (8 * R.length)).length=8 * R.length:=Ny _ _
 have hu:8 * ((j+7) / 8)<=8 * R.length:=by omega
 have hg:∀ i,i < (((bitsOf R (8 * R.length)).take (8 * ((j+7) / 8))).drop j).length->gi (((bitsOf R (8 * R.length)).take (8 * ((j+7) / 8))).drop j) i=AP R (j+i):=by
  intro i hi
  rw [BZ _ _ hi]
  simp [bitsOf]
 have hn:(((bitsOf R (8 * R.length)).take (8 * ((j+7) / 8))).drop j).length=8 * ((j+7) / 8) - j:=by
  rw [List.length_drop,List.length_take,hl];omega
 cases hz:zpad R j with
|true =>
  have h1:=List.all_eq_true.1 hz
  refine Ua fun i hi=>?_
  have h2:=of_decide_eq_true (h1 i (List.mem_range.2 (by omega)))
  rw [hg i hi,h2]
  decide
|false =>
  rw [zpad,List.all_eq_false] at hz
  obtain ⟨i,hi,h1⟩:=hz
  have hi:=List.mem_range.1 hi
  have hb:=KY R (j+i)
  have h0:AP R (j+i) ≠ 0:=by simpa using h1
  exact Wh (k:=i) (by omega) (by rw [hg i (by omega)];omega)
set_option maxHeartbeats 400000
variable {k:IntKind} {l:List Int} {ss:List Sl} {xs:List Value} {c i j n:Nat} {a:Nat × Array Value} {ad:Option Addr} {A Z rs:Rws} {W w w0:World}
theorem SL:∀ (l:List Int) (t:TT) (i:Int),t.ok->Bin l->(Bv t l i).2.2=0->(Bv t l i).1.length=258/\Bytes (Bv t l i).1/\JL (Bv t l i).1=true
|[],_,_,_,_,h=>by simp [Bv] at h
|b::r,t,i,ho,hb,h=>by
  have ih:=SL r
  have h0:=hb b (by simp)
  rw [Bv] at h ⊢
  by_cases h1:(t.next b).2=true
  ·rw [if_pos h1] at h ⊢
   have hn:=ho.next h0.1 h0.2 h1
   by_cases h2:(t.next b).1.s=258
   ·rw [if_pos h2]
    rcases hn with hn|hn
    ·omega
    ·exact hn.2
   ·rw [if_neg h2] at h ⊢
    rcases hn with hn|hn
    ·exact ih _ _ hn.2 (fun x hx=>hb x (List.mem_cons_of_mem _ hx)) h
    ·exact absurd hn.1 h2
  ·rw [if_neg h1] at h
   simp at h
def A1y (w0:World) (o:Option (List Int × List Int)) (rs:Rws) (ss:List Sl) (x:Ending) (w':World):Prop:=match o with
|none=>∃ e,e ≠ 0/\x=.returned (.tuple #[.slice none 0 0,.slice none 0 0,.int .i64 e])/\Own w0 w' rs ss
|some (t,R)=>∃ X Y v u,x=.returned (.tuple #[v,u,.int .i64 0])/\Lies 1 X v t.length (vs .u8 t)/\Lies 1 Y u R.length (vs .u8 R)/\Own w0 w' (X++(Y++rs)) ss
theorem Lies.ny {X:Rws} {v:Value} (h:Lies 1 X v n (vs k l)) (hm:Own w0 w (A++(X++rs)) ss):In k w v l:=h.gZ hm
theorem In.sub (h:In k W (.slice ad l.length c) l) (hi:i<=j) (hj:j<=l.length) (hc:l.length<=c):In k W (.slice (D8 ad c i) (j - i) (c - i)) ((l.take j).drop i):=by
 obtain ⟨ad2,c2,he,hl⟩:=h
 cases he
 have hn:((l.take j).drop i).length=j - i:=by rw [List.length_drop,List.length_take];omega
 refine ⟨D8 ad c i,c - i,by rw [hn],fun q hq=>?_⟩
 rw [hn] at hq
 obtain ⟨A,h2,h3⟩:=hl (i+q) (by omega)
 subst h2
 refine ⟨A.add i,by rw [D8,if_neg (by omega)];rfl,?_⟩
 rw [Addr.add_add,h3]
 rw [BZ _ _ (by omega),BZ _ _ (by rw [hn];exact hq)]
 simp
theorem Lies.Pe {X:Rws} {v:Value} (h:Lies 1 X v n xs):∃ ad c,v=.slice ad n c/\n<=c:=by
 by_cases hn:0 < n
 ·obtain ⟨g,p,c,cells,_,rfl,hc,_⟩:=h.pos hn
  exact ⟨_,c,rfl,hc⟩
 ·obtain ⟨ad,c,rfl⟩:=h.shape
  exact ⟨ad,c,rfl,by omega⟩
theorem Ph {n:Int} (n1:1<=n) (n2:n<=65536):∀ (l:List Int) (t:MT) (r:MR) (R:List Int),t.ok n->Bytes l->BO n t l=some (r,R)->r.ok n/\Bytes R/\R.length < l.length
|[],_,_,_,_,_,h=>by cases h
|x::l,t,r,R,ht,hb,h=>by
  have h0:=hb x (by simp)
  have hok:=MT.step_ok n1 n2 ht h0.1 (show x<=255 by omega)
  have hb2:Bytes l:=fun y hy=>hb y (List.mem_cons_of_mem _ hy)
  rw [BO] at h
  cases hr:MT.step n x t with
 |go t2 =>
   rw [hr] at h hok
   have:=Ph n1 n2 l t2 r R hok hb2 h
   exact ⟨this.1,this.2.1,by simp;omega⟩
 |block m p s=>rw [hr] at h hok;cases h;exact ⟨hok,hb2,by simp⟩
 |tail s=>rw [hr] at h hok;cases h;exact ⟨hok,hb2,by simp⟩
 |bad=>rw [hr] at h;cases h
theorem Own.unX1 (h:Own w0 w (Z++(a::rs)) ss):Own w0 w (a::(Z++rs)) ss:=h.perm (Fq Z [a] rs)
set_option maxHeartbeats 400000
theorem eU {b:DS} (h:Vl b.l) (s:Int):Bytes (FY b s).2.1:=by
 have hr:Bytes b.rep:=fun x hx=>by
  obtain ⟨_,rfl⟩:=List.mem_replicate.1 hx
  exact h.bytes.gi 0 (by rw [h.len];decide)
 have hn:Bytes []:=fun x hx=>by cases hx
 rw [FY]
 split
 ·split
  ·rw [G9]
   split
   ·exact hn
   ·split
    ·exact hr
    ·split
     ·exact hn
     ·intro x hx
      rcases List.mem_append.1 hx with hx|hx
      ·exact hr x hx
      ·obtain rfl:x=takeC b.l (s - 1):=by simpa using hx
       exact XT h _
  ·exact hn
 ·exact hn
theorem nX {a b:List Int} (ha:Bytes a) (hb:Bytes b):Bytes (a++b):=fun x hx=>by
 rcases List.mem_append.1 hx with hx|hx
 ·exact ha x hx
 ·exact hb x hx
theorem TU {L:List Int}:∀ (l:List Int) (q:Int) (k:Nat) (b:DS) (out:List Int) (a:Nat) (last:List Int) (many:Nat),Vl b.l->Bytes out->Dt L q k b l out a=some (last,many)->Bytes last
|[],_,_,_,_,_,_,_,_,_,h=>by cases h
|x::r,q,k,b,out,a,last,many,hv,ho,h=>by
  rw [Dt] at h
  have ih:=TU (L:=L) r
  have hb:=nX ho (eU hv (pfs L q k x).2.2.1)
  split at h
  ·split at h
   ·split at h
    ·cases h;exact hb
    ·exact ih _ _ _ _ _ _ _ (Xu hv _) hb h
   ·cases h
  ·exact ih _ _ _ _ _ _ _ hv ho h
set_option maxHeartbeats 4000000
set_option maxRecDepth 100000
variable {p s:Int} {l out t:List Int} {ss:List Sl} {g:Nat} {a b:Nat × Array Value} {T Y Z rs:Rws} {u:Value} {w w0:World}
theorem SQ:∀ (l:List Int) (t:TT) (i:Int),t.ok->Bin l->(Bv t l i).1.length=258
|[],_,_,_,_=>Az
|b::r,t,i,ho,hb=>by
  have ih:=SQ r
  have h0:=hb b (by simp)
  rw [Bv]
  by_cases h1:(t.next b).2=true
  ·rw [if_pos h1]
   have hn:=ho.next h0.1 h0.2 h1
   by_cases h2:(t.next b).1.s=258
   ·rw [if_pos h2]
    rcases hn with hn|hn
    ·omega
    ·exact hn.2.1
   ·rw [if_neg h2]
    rcases hn with hn|hn
    ·exact ih _ _ hn.2 (fun x hx=>hb x (List.mem_cons_of_mem _ hx))
    ·exact absurd hn.1 h2
  ·rw [if_neg h1]
   exact Az
theorem xw (h:bwk out p.toNat out.length 0 []=none):chk out p s=none:=by rw [chk,h]
theorem xu (h:bwk out p.toNat out.length 0 []=some t):chk out p s=if crc 0 [t.reverse]=s then some t.reverse else none:=by rw [chk,h]
theorem Own.re1 {X:Rws} (h:Own w0 w (Y++(a::b::(Z++(X++rs)))) ss):Own w0 w (b::(Z++(Y++(X++rs)))) ss:=(h.perm (by
 have e:=Fq Y ([a,b]++Z) (X++rs)
 simpa only [s2,List.append_assoc] using e):Own w0 w (a::b::(Z++(Y++(X++rs)))) ss).dropRow
theorem Own.re2 {X:Rws} (h:Own w0 w (T++(a::b::(Z++(Y++(X++rs))))) ss):Own w0 w (b::(T++(X++rs))) ss:=(h.perm (Fq T [a,b] (Z++(Y++(X++rs)))):Own w0 w (a::b::(T++(Z++(Y++(X++rs))))) ss).sub (((List.Sublist.append (List.Sublist.refl T) ((List.sublist_append_right Y _).trans (List.sublist_append_right Z _))).cons_cons b).cons a) (List.Sublist.refl _)
theorem Own.re3 {X V:Rws} (h:Own w0 w (V++(a::b::(T++(X++rs)))) ss):Own w0 w (T++(V++rs)) ss:=(h.perm (by
 have e:=Fq V ([a,b]++T) (X++rs)
 simpa only [s2,List.append_assoc] using e):Own w0 w (a::b::(T++(V++(X++rs)))) ss).sub (((List.Sublist.append (List.Sublist.refl T) (List.Sublist.append (List.Sublist.refl V) (List.sublist_append_right X rs))).cons b).cons a) (List.Sublist.refl _)
theorem InS.one (h:Own w0 w ((g,#[u])::rs) ss) (hu:In .u8 w u l):InS w (.slice (some ⟨g,0,none⟩) 1 1) [l]:=by
 refine ⟨_,_,rfl,fun i hi=>⟨_,u,rfl,?_,?_⟩⟩
 ·obtain rfl:i=0:=by simpa using hi
  exact Iz (h.row 0 rfl) 0 rfl
 ·obtain rfl:i=0:=by simpa using hi
  exact hu
theorem aN (v:Value) (n:Int) (n1:1<=n) (n2:n<=65536) (l:List Int) (m p s:Int) (R:List Int) (hR:BO n .mark l=some (.block m p s,R)) (w0 w:World) (rs:Rws) (ss:List Sl) (hm:Own w0 w rs ss) (hv:∀ W,Own w0 W rs ss->InC .u8 W v l) (hb:Bytes l) (hn:l.length<=1000):Calls Tryz.prog 47 #[.int .i64 n,v] w (A1y w0 (Ik m p s R) rs ss):=by
 obtain ⟨hok,hRB,hRl⟩:=Ph n1 n2 l .mark _ R trivial hb hR
 obtain ⟨pn,rfl⟩:∃ k:Nat,p=k:=⟨p.toNat,by have:=hok;simp only [MR.ok] at this;omega⟩
 have C46:Hid (∀ W,Own w0 W rs ss->Calls Tryz.prog 46 #[.int .i64 n,v] W fun x w'=>∃ X v,x=.returned (.tuple #[.agg (MS 4 0 0 m pn s 4),v,.int .i64 0])/\Lies 1 X v R.length (vs .u8 R)/\Own w0 w' (X++rs) ss):=Lib.hid fun W h=>by
  have h2:=VB v n n1 n2 l w0 W rs ss h hv hb hn
  rw [hR] at h2
  exact h2
 have C102:Hid (∀ W (g:Nat × Array Value) X v2,Lies 1 X v2 R.length (vs .u8 R)->Own w0 W (g::(X++rs)) ss->Calls Tryz.prog 102 #[v2] W (kE w0 (bitsOf R (8 * R.length)) (g::(X++rs)) ss)):=Lib.hid fun W g X v2 hX h=>fJ v2 R w0 W _ ss h (fun W h=>hX.gZ (A:=[g]) h) hRB (by omega)
 have hlen:(bitsOf R (8 * R.length)).length=8 * R.length:=Ny _ _
 have hbin:=xH R (8 * R.length)
 have hG:Ik m pn s R=if (Bv TT0 (bitsOf R (8 * R.length)) 0).2.2=0 then
  match Dt (Bv TT0 (bitsOf R (8 * R.length)) 0).1 0 0 (dNew m) ((bitsOf R (8 * R.length)).drop (Bv TT0 (bitsOf R (8 * R.length)) 0).2.1.toNat) [] 0 with
 |none=>none
 |some (last,many)=>if zpad R ((Bv TT0 (bitsOf R (8 * R.length)) 0).2.1.toNat+many) then
    (match chk last pn s with
   |none=>none
   |some t=>some (t,R.drop (((Bv TT0 (bitsOf R (8 * R.length)) 0).2.1.toNat+many+7) / 8)))
   else none
 else none:=rfl
 have hZP:=fun j (hj:j<=8 * R.length)=>ql (R:=R) hj
 have htab:=SL (bitsOf R (8 * R.length)) TT0 0 XK hbin
 have hfirst:=Nw (bitsOf R (8 * R.length)) TT0 0
 have HG:=Lib.hid hG
 have HRL:=Lib.hid hRl
 have HZP:=Lib.hid hZP
 have HBI:=Lib.hid hbin
 clear hZP
 have hbl:(bitsOf R (8 * R.length)).length<=10000:=by rw [hlen];omega
 clear hG hb hv hR hRl
 generalize bitsOf R (8 * R.length)=bits at *
 have C103:Hid (∀ W (g:Nat × Array Value) X Z v2,Lies 1 Z v2 bits.length (vs .i64 bits)->Own w0 W (g::(Z++(X++rs))) ss->Calls Tryz.prog 103 #[v2] W fun e w'=>(e=.returned (.tuple #[.agg (J .u8 (Bv TT0 bits 0).1),.int .i64 (Bv TT0 bits 0).2.1,.int .i64 (Bv TT0 bits 0).2.2]))/\Below W.heap.size W w'):=Lib.hid fun W g X Z v2 hZ h=>SN v2 bits W (hZ.gZ (A:=[g]) h) hbin (by omega)
 have HBL:=Lib.hid hbl
 clear hbl
 have hLL:=SQ bits TT0 0 XK hbin
 have HL:=Lib.hid hLL
 have HTB:=Lib.hid htab
 have HFI:=Lib.hid hfirst
 clear htab hfirst hLL
 generalize Bv TT0 bits 0=tb at *
 obtain ⟨L,first,e⟩:=tb
 by_cases he:e=0
 ·subst he
  have hf:0 < first/\first<=0+bits.length:=HFI.out rfl
  have htb:L.length=258/\Bytes L/\JL L=true:=HTB.out rfl
  obtain ⟨f,rfl⟩:∃ f:Nat,first=(f:Int):=⟨first.toNat,by omega⟩
  have hfl:f<=bits.length:=by omega
  have hf0:0 < f:=by omega
  obtain ⟨i3,hE⟩:=nR
  have HE:=Lib.hid hE
  have HLEN:=Lib.hid hlen
  have HB2:Hid (Bin (bits.drop f)):=Lib.hid (xG hbin f)
  clear hlen hbin hf HTB HFI hE
  obtain ⟨hL1,hL2,hL3⟩:=htb
  have HTL:=Lib.hid hL2
  have HTK:=Lib.hid hL3
  clear hL1 hL2 hL3
  obtain ⟨hm1,hm2⟩:1<=m/\m<=65536:=⟨by have:=hok;simp only [MR.ok] at this;omega,by have:=hok;simp only [MR.ok] at this;omega⟩
  have CC:Hid (∀ W X Z adZ cZ (a b:Nat × Array Value),bits.length<=cZ->Lies 1 Z (.slice adZ bits.length cZ) bits.length (vs .i64 bits)->Own w0 W (a::b::(Z++(X++rs))) ss->Calls Tryz.prog 104 #[.int .i64 m,.agg (J .u8 L),.slice (D8 adZ cZ f) (bits.length - f) (cZ - f)] W (kL w0 (Dt L 0 0 (dNew m) (bits.drop f) [] 0) (a::b::(Z++(X++rs))) ss)):=Lib.hid fun W X Z adZ cZ a b hc hZ h=>fA m hm1 hm2 L HL.out HTL.out HTK.out _ (bits.drop f) w0 W _ ss h (fun W h=>by
   have:=(hZ.ny (A:=[a,b]) h).sub (i:=f) (j:=bits.length) hfl (by omega) hc
   rwa [List.take_length] at this) HB2.out (by rw [List.length_drop];have:=HBL.out;omega)
  have HCM:=Lib.hid (fun last many=>wW (L:=L) (l:=bits.drop f) (last:=last) (many:=many) hm1 hm2)
  have HCN:=Lib.hid (fun last many=>VO (L:=L) (bits.drop f) 0 0 (dNew m) [] 0 last many)
  have HCB:=Lib.hid (fun last many=>TU (L:=L) (bits.drop f) 0 0 (dNew m) [] 0 last many (Xw hm1 hm2) (fun x hx=>by cases hx))
  have hO:(if (0:Int)=0 then
   match Dt L 0 0 (dNew m) (bits.drop (f:Int).toNat) [] 0 with
  |none=>none
  |some (last,many)=>if zpad R ((f:Int).toNat+many) then
     (match chk last pn s with
    |none=>none
    |some t=>some (t,R.drop (((f:Int).toNat+many+7) / 8)))
    else none
  else none)=match Dt L 0 0 (dNew m) (bits.drop f) [] 0 with
  |none=>none
  |some (last,many)=>if zpad R (f+many) then
     (match chk last pn s with
    |none=>none
    |some t=>some (t,R.drop ((f+many+7) / 8)))
    else none:=rfl
  have HG2:=Lib.hid (HG.out.trans hO)
  clear hO HG
  generalize Ik m pn s R=res at *
  generalize Dt L 0 0 (dNew m) (bits.drop f) [] 0=o at *
  go_enter Tryz.func47,Tryz.ntmps47
  go_upto_region 10 with (first
   |(with_reducible refine wa 88 hm FM ?_;clear hm;intro w g7 hm)
   |(with_reducible refine ws 88 0 hm ?_;clear hm;intro w hm)
   |(go_at_call 46;have _t:=hm;refine (C46.out _ hm).mono ?_;clear _t hm;rintro x w1 ⟨X,v2,rfl,hX,hm⟩;obtain ⟨adX,cX,rfl,hcX⟩:=hX.Pe;have HX:=Lib.hid hX;clear hX)
   |(with_reducible refine wl 3 0 hm ?_)
   |(go_at_call 102;have _t:=hm;refine (C102.out _ _ _ _ HX.out hm).mono ?_;clear _t hm;rintro x w1 ⟨Z,vz,rfl,hZ,hm⟩;obtain ⟨adZ,cZ,rfl,hcZ⟩:=hZ.Pe;have HZ:=Lib.hid hZ;clear hZ;replace hm:=hm.unX1)
   |(go_at_call 103;have _t:=C103.out _ _ _ _ _ HZ.out hm;refine _t.mono ?_;clear _t;rintro x w1 ⟨rfl,hb⟩;replace hm:=hm.call hb;clear hb)
   |(with_reducible refine wa 139 hm aC ?_;clear hm;intro w g9 hm)
   |(with_reducible refine ws 139 0 hm ?_ (ht:=(by with_unfolding_all exact F5 HL.out)) (hs:=(by with_unfolding_all exact WC HL.out Az)) (h1:=(by with_unfolding_all exact J_one _ _));clear hm;intro w hm))
  refine rO hm 7 (.rds [(0,false),(1,false),(2,true),(3,true),(4,false),(5,false),(6,false)] (.brk 7 15 (.rds [(8,false),(9,false),(10,false),(11,false),(12,false),(13,false),(14,false)] .done))) ?_
  clear hm
  intro w hm
  simp only [KT.rds]
  iterate 2 refine kq ?_
  refine km (fun W hm=>ld 1 hm rfl rfl rfl (ot rfl) rfl) ?_
  refine km (fun W hm=>lda 0 hm rfl rfl rfl (F5 HL.out)) ?_
  iterate 2 refine kq ?_
  (refine K_p rfl rfl (fun W=>CY (l:=f) (h:=bits.length) rfl HE.out rfl (.inr ⟨_,rfl⟩) (.inl ⟨rfl,rfl⟩) hfl hcZ) ?_)
  try simp only [Act.put,s3]
  refine PO rfl rfl (fun K hK=>?_)
  go_simp
  refine (CC.out _ _ _ _ _ _ _ hcZ HZ.out hm).mono ?_
  intro x w1 hx
  clear hm
  cases o with
 |none =>
   obtain ⟨e,he,rfl,hm⟩:=hx
   have q1:(e != 0)=true:=by simpa using he
   have HE0:=Lib.hid he
   clear he
   refine hK _ _ ⟨fun W=>Own _ W _ _,hm,?_⟩
   clear hK K
   iterate 7 refine kq ?_
   refine Ba ?_
   go_simp
   go_wp2
   refine bodyPost_ret (results_tmp3 rfl _ _ _) rfl ?_
   rw [HG2.out]
   exact ⟨e,HE0.out,rfl,hm.sub (((List.sublist_append_right X rs).trans (List.sublist_append_right Z _)).cons _ |>.cons _) (List.Sublist.refl _)⟩
 |some o =>
   obtain ⟨last,many⟩:=o
   obtain ⟨Y,vY,rfl,hY,hm⟩:=hx
   replace hm:=hm.re1
   obtain ⟨adY,cY,rfl,hcY⟩:=hY.Pe
   have HY:=Lib.hid hY
   clear hY
   refine hK _ _ ⟨fun W=>Own _ W _ _,hm,?_⟩
   clear hK K
   iterate 7 refine kq ?_
   refine Ba ?_
   go_simp
   have hmany:=HCN.out last many rfl
   have hlast:=HCM.out last many rfl
   rw [List.length_drop] at hmany
   have hl8:=HLEN.out
   have hRp:0 < R.length:=by omega
   obtain ⟨AX,rfl⟩:∃ A,adX=some A:=by
    obtain ⟨g,p,c,cells,_,he,_⟩:=HX.out.pos hRp
    cases he
    exact ⟨_,rfl⟩
   obtain ⟨j,hj⟩:∃ j,j=f+many:=⟨_,rfl⟩
   obtain ⟨u,hu⟩:∃ u,u=(j+7) / 8:=⟨_,rfl⟩
   have hju:j<=u * 8:=by omega
   have hub:u * 8<=bits.length:=by omega
   have huc:u * 8<=cZ:=by omega
   have huR:u<=R.length:=by omega
   have hbl:=HBL.out
   have hjb:j<=100000:=by omega
   have hub8:u * 8<=100000:=by omega
   have HZPj:Hid (((bits.take (u * 8)).drop j).any (fun y=>decide (y=1))=!zpad R j):=Lib.hid (by rw [Nat.mul_comm,hu];exact HZP.out j (by omega))
   have HG3:Hid (res=if zpad R j then (match chk last pn s with
    |none=>none
    |some t=>some (t,R.drop u)) else none):=Lib.hid (by rw [HG2.out,hu,hj])
   clear HG2
   have hp:1<=pn/\(pn:Int)<=m:=by have:=hok;simp only [MR.ok] at this;omega
   have hpl:pn<=last.length:=by omega
   have hl0:0 < last.length:=by omega
   have hlm:last.length<=65536:=by omega
   have C105:Hid (∀ W {a:Nat × Array Value},Own w0 W (a::(Z++(Y++(X++rs)))) ss->Calls Tryz.prog 105 #[.slice (D8 adZ cZ j) (u * 8 - j) (cZ - j),.int .i64 1] W fun x w'=>(x=.returned (.bool (!zpad R j)))/\Below W.heap.size W w'):=Lib.hid fun W a h=>by
    have:=UZ _ _ W ((HZ.out.ny (A:=[a]) h).sub (i:=j) (j:=u * 8) hju hub hcZ) (by rw [List.length_drop,List.length_take];omega)
    rwa [HZPj.out] at this
   have e2:Hid (((f:Int)+many+7) / 8=(u:Int)):=Lib.hid (by omega)
   subst hj
   have HJU:=Lib.hid hju
   have HUC:=Lib.hid huc
   have HUR:=Lib.hid huR
   have HP:=Lib.hid hp
   have HPL:=Lib.hid hpl
   have HL0:=Lib.hid hl0
   have HLB:=Lib.hid (HCB.out last many rfl)
   have HLM:=Lib.hid hlm
   clear hmany hl8 hlast hu hju huc huR hp hpl hl0 hlm hub hbl hRp hfl hf0
   go_upto_region 14 with fail
   rw [e2.out]
   have C27:Hid (∀ W {a:Nat × Array Value},Own w0 W (a::(Z++(Y++(X++rs)))) ss->Calls Tryz.prog 27 #[.slice adY last.length cY,.int .i64 pn] W (aB w0 (bwk last pn last.length 0 []) last.length (a::(Z++(Y++(X++rs)))) ss)):=Lib.hid fun W a h=>xJ _ last pn w0 W _ ss h (fun W h=>HY.out.ny (A:=a::Z) h) HLB.out HP.out.1 HPL.out (by have:=HLM.out;omega)
   have HGN:Hid (zpad R (f+many)=false->res=none):=Lib.hid fun h=>by rw [HG3.out,h];rfl
   have HGM:Hid (zpad R (f+many)=true->bwk last pn last.length 0 []=none->res=none):=Lib.hid fun h h2=>by rw [HG3.out,h,xw (p:=pn) h2];rfl
   have HGS:Hid (zpad R (f+many)=true->∀ t,bwk last pn last.length 0 []=some t->res=if crc 0 [t.reverse]=s then some (t.reverse,R.drop u) else none):=Lib.hid fun h t h2=>by
    rw [HG3.out,h,xu (p:=pn) h2]
    by_cases hc:crc 0 [t.reverse]=s
    ·rw [if_pos hc,if_pos hc];rfl
    ·rw [if_neg hc,if_neg hc];rfl
   clear HG3 HZPj
   generalize zpad R (f+many)=z at *
   cases z with
  |false =>
    have HRN:=Lib.hid (HGN.out rfl)
    clear HGN HGM HGS
    go_wp2_with (first
     |(go_at_call 105;have _t:=hm;refine (C105.out _ hm).mono ?_;clear _t;rintro x w1 ⟨rfl,hb⟩;replace hm:=hm.call hb;clear hb)
     |(with_reducible refine gSl ?_;(refine A8 rfl (CY (l:=f+many) (h:=u * 8) rfl HE.out rfl (.inr ⟨_,rfl⟩) (.inr ⟨_,rfl⟩) HJU.out HUC.out) ?_)))
    refine bodyPost_ret (results_tmp3 rfl _ _ _) rfl ?_
    rw [HRN.out]
    exact ⟨160,by decide,rfl,hm.sub (((((List.sublist_append_right X rs).trans (List.sublist_append_right Y _)).trans (List.sublist_append_right Z _)).cons _)) (List.Sublist.refl _)⟩
  |true =>
    have HGM2:=Lib.hid (HGM.out rfl)
    have HGS2:=Lib.hid (HGS.out rfl)
    clear HGN HGM HGS
    generalize bwk last pn last.length 0 []=ob at *
    cases ob with
   |none =>
     have HRN:=Lib.hid (HGM2.out rfl)
     clear HGM2 HGS2
     go_wp2_with (first
      |(go_at_call 105;have _t:=hm;refine (C105.out _ hm).mono ?_;clear _t;rintro x w1 ⟨rfl,hb⟩;replace hm:=hm.call hb;clear hb)
      |(with_reducible refine gSl ?_;(refine A8 rfl (CY (l:=f+many) (h:=u * 8) rfl HE.out rfl (.inr ⟨_,rfl⟩) (.inr ⟨_,rfl⟩) HJU.out HUC.out) ?_))
      |(with_reducible refine wl 3 0 hm ?_)
      |(go_at_call 27;have _t:=hm;refine (C27.out _ hm).mono ?_;clear _t hm;rintro x w1 ⟨rfl,hm⟩))
     refine bodyPost_ret (results_tmp3 rfl _ _ _) rfl ?_
     rw [HRN.out]
     exact ⟨170,by decide,rfl,hm.sub (((((List.sublist_append_right X rs).trans (List.sublist_append_right Y _)).trans (List.sublist_append_right Z _)).cons _)) (List.Sublist.refl _)⟩
   |some t =>
     have HRS:=Lib.hid (HGS2.out t rfl)
     clear HGM2 HGS2
     have C106:Hid (∀ W (gT:Nat) {a:Nat × Array Value},t.length=last.length->Own w0 W ((gT,J .u8 t)::a::(Z++(Y++(X++rs)))) ss->Calls Tryz.prog 106 #[.slice (some ⟨gT,0,none⟩) last.length last.length] W fun x w'=>∃ T v,x=.returned v/\Lies 1 T v t.length (vs .u8 t.reverse)/\Own w0 w' (a::(T++(X++rs))) ss):=Lib.hid fun W gT a hT h=>(ZJ _ t w0 W _ ss h (fun W h=>Src.Pm (h.row 0 rfl) 0 _ _ (vs .u8 t) (by rw [Ai,hT]) (fun j u hu=>by rw [Nat.zero_add,J,List.getElem?_toArray];exact hu)) (by have:=HLM.out;omega) (by have:=HL0.out;omega)).mono fun x w' ⟨T,v,e,h1,h2⟩=>⟨T,v,e,h1,h2.re2⟩
     go_upto_region 20 with (first
      |(go_at_call 105;have _t:=hm;refine (C105.out _ hm).mono ?_;clear _t;rintro x w1 ⟨rfl,hb⟩;replace hm:=hm.call hb;clear hb)
      |(with_reducible refine gSl ?_;(refine A8 rfl (CY (l:=f+many) (h:=u * 8) rfl HE.out rfl (.inr ⟨_,rfl⟩) (.inr ⟨_,rfl⟩) HJU.out HUC.out) ?_))
      |(with_reducible refine wl 3 0 hm ?_)
      |(go_at_call 27;have _t:=hm;refine (C27.out _ hm).mono ?_;clear _t hm;rintro x w1 ⟨gT,hTn,rfl,hm⟩;have HTN:=Lib.hid hTn;clear hTn)
      |(go_at_call 106;have _t:=hm;refine (C106.out _ _ HTN.out hm).mono ?_;clear _t hm;rintro x w1 ⟨T,vT,rfl,hT,hm⟩;obtain ⟨adT,cT,rfl⟩:=hT.shape;have HT:=Lib.hid hT;clear hT))
     have CF:Hid (∀ W (gq:Nat) {a:Nat × Array Value},Own w0 W ((gq,#[.slice adT t.length cT])::a::(T++(X++rs))) ss->Calls Tryz.prog 48 #[.slice (some ⟨gq,0,none⟩) 1 1] W fun e w'=>(e=.returned (.int .u32 (crc 0 [t.reverse])))/\Below W.heap.size W w'):=Lib.hid fun W gq a h=>jM _ [t.reverse] W (InS.one h (HT.out.ny (A:=[(gq,#[.slice adT t.length cT]),a]) h)) (by
      intro p hp
      obtain rfl:p=t.reverse:=by simpa using hp
      rw [List.length_reverse,HTN.out];have:=HLM.out;omega) (by simp)
     have C99:Hid (∀ W {a b:Nat × Array Value},Own w0 W (a::b::(T++(X++rs))) ss->Calls Tryz.prog 99 #[.slice (D8 (some AX) cX u) (R.length - u) (cX - u)] W fun x w'=>∃ V v,x=.returned v/\Lies 1 V v (R.length - u) (vs .u8 (R.drop u))/\Own w0 w' (T++(V++rs)) ss):=Lib.hid fun W a b h=>(clone_any _ (R.drop u) W (In.from (HX.out.ny (A:=a::b::T) h) HUR.out hcX) (by rw [List.length_drop];have:=HRL.out;omega)).mono fun x w' hx=>by
      obtain ⟨V,v,e,h1,h2⟩:=h.ofB hx
      rw [List.length_drop] at h1
      exact ⟨V,v,e,h1,h2.re3⟩
     clear C105 C27 C106
     obtain ⟨i34,hE34⟩:=wO
     have HE34:=Lib.hid hE34
     obtain ⟨i22,hE22⟩:=el22
     have HE22:=Lib.hid hE22
     clear hE34 hE22
     generalize crc 0 [t.reverse]=c at *
     refine rO hm 7 (.rds [(0,false),(3,false),(4,false),(5,true)] (.one 1 (.one 2 (.rds [(6,false)] .done)))) ?_
     clear hm
     intro w hm
     simp only [KT.rds]
     iterate 3 refine kq ?_
     refine km (fun W hm=>ld 0 hm rfl rfl rfl (ot rfl) rfl) ?_
     (refine Bo rfl rfl (JQ hm rfl HE34.out (Ac rfl) rfl ?_))
     clear hm
     intro w gq hm
     refine ⟨fun W=>Own _ W _ _,fun _ h=>h,hm.dropRow,?_⟩
     try simp only [Act.put,s3]
     refine DJ rfl rfl (fun K hK=>?_)
     go_simp
     refine (CF.out _ _ hm).mono ?_
     rintro e w1 ⟨rfl,hb⟩
     replace hm:=hm.call hb
     clear hb
     refine hK _ _ ⟨fun W=>Own _ W _ _,fun _ h=>h,hm.dropRow,?_⟩
     clear hK K
     refine kq ?_
     refine Ba ?_
     go_simp
     by_cases hc:c=s
     ·subst hc
      have HRR:=Lib.hid (HRS.out.trans (if_pos rfl))
      clear HRS
      go_wp2_with (first
       |(with_reducible refine gSl ?_;(refine A8 rfl (CY (l:=u) (h:=R.length) rfl HE22.out rfl (.inr ⟨_,rfl⟩) (.inl ⟨rfl,rfl⟩) HUR.out hcX) ?_))
       |(go_at_call 99;have _t:=hm;refine (C99.out _ hm).mono ?_;clear _t hm;rintro x w1 ⟨V,vV,rfl,hV,hm⟩;obtain ⟨adV,cV,rfl⟩:=hV.shape;have HV:=Lib.hid hV;clear hV))
      refine bodyPost_ret (results_tmp3 rfl _ _ _) rfl ?_
      rw [HRR.out]
      exact ⟨T,V,_,_,rfl,by rw [List.length_reverse];exact HT.out,by rw [List.length_drop];exact HV.out,hm⟩
     ·have HRR:=Lib.hid (HRS.out.trans (if_neg hc))
      have q2:(c != s)=true:=by simpa using hc
      have q3:decide (c=s)=false:=by simpa using hc
      have q4:(c == s)=false:=by simpa using hc
      clear HRS hc
      go_wp2
      refine bodyPost_ret (results_tmp3 rfl _ _ _) rfl ?_
      rw [HRR.out]
      exact ⟨250,by decide,rfl,hm.sub (((((List.sublist_append_right X rs).trans (List.sublist_append_right T _)).cons _).cons _)) (List.Sublist.refl _)⟩
 ·have q1:(e != 0)=true:=by simpa using he
  have HE0:=Lib.hid he
  have HGN:Hid (Ik m pn s R=none):=Lib.hid (HG.out.trans (if_neg he))
  clear he HG HTB HFI hlen hbin
  go_enter Tryz.func47,Tryz.ntmps47
  go_wp2_with (first
   |(with_reducible refine wa 88 hm FM ?_;clear hm;intro w g7 hm)
   |(with_reducible refine ws 88 0 hm ?_;clear hm;intro w hm)
   |(go_at_call 46;have _t:=hm;refine (C46.out _ hm).mono ?_;clear _t hm;rintro x w1 ⟨X,v2,rfl,hX,hm⟩;obtain ⟨adX,cX,rfl,hcX⟩:=hX.Pe;have HX:=Lib.hid hX;clear hX)
   |(with_reducible refine wl 3 0 hm ?_)
   |(go_at_call 102;have _t:=hm;refine (C102.out _ _ _ _ HX.out hm).mono ?_;clear _t hm;rintro x w1 ⟨Z,vz,rfl,hZ,hm⟩;obtain ⟨adZ,cZ,rfl,hcZ⟩:=hZ.Pe;have HZ:=Lib.hid hZ;clear hZ;replace hm:=hm.unX1)
   |(go_at_call 103;have _t:=C103.out _ _ _ _ _ HZ.out hm;refine _t.mono ?_;clear _t;rintro x w1 ⟨rfl,hb⟩;replace hm:=hm.call hb;clear hb)
   |(with_reducible refine wa 139 hm aC ?_;clear hm;intro w g9 hm)
   |(with_reducible refine ws 139 0 hm ?_ (ht:=(by with_unfolding_all exact F5 HL.out)) (hs:=(by with_unfolding_all exact WC HL.out Az)) (h1:=(by with_unfolding_all exact J_one _ _));clear hm;intro w hm))
  refine bodyPost_ret (results_tmp3 rfl _ _ _) rfl ?_
  rw [HGN.out]
  exact ⟨e,HE0.out,rfl,hm.sub ((((List.sublist_append_right X rs).trans (List.sublist_append_right Z _)).cons _).cons _) (List.Sublist.refl _)⟩
set_option maxHeartbeats 400000
variable {m n p s:Int} {left out r2 t x:List Int} {b f:Nat}
theorem Va:∀ (l:List Int) (t:HT) (n:Int) (R:List Int),t.ok->Bytes l->DI t l=some (n,R)->1<=n/\n<=65536/\Bytes R/\R.length < l.length
|[],_,_,_,_,_,h=>by cases h
|x::l,t,n,R,ht,hb,h=>by
  have h0:=hb x (by simp)
  have hok:=HT.step_ok ht h0.1 (show x<=255 by omega)
  have hb2:Bytes l:=fun y hy=>hb y (List.mem_cons_of_mem _ hy)
  rw [DI] at h
  cases hr:t.step x with
 |go t2 =>
   rw [hr] at h hok
   have:=Va l t2 n R hok hb2 h
   exact ⟨this.1,this.2.1,this.2.2.1,by simp;omega⟩
 |done k=>rw [hr] at h hok;cases h;exact ⟨hok.1,hok.2,hb2,by simp⟩
 |bad e=>rw [hr] at h;cases h
theorem jQ (l:List Int) (index:Nat):∀ (k r:Nat) (acc t:List Int),bwk l index k r acc=some t->t.length=k+acc.length
|0,r,acc,t,h=>by
  rw [bwk] at h
  split at h
  ·cases h;simp
  ·cases h
|k+1,r,acc,t,h=>by
  rw [bwk] at h
  split at h
  ·cases h
  ·have:=jQ l index k _ _ t h
   rw [this,List.length_cons];omega
theorem jP (h:chk out p s=some t):t.length=out.length:=by
 rw [chk] at h
 cases hb:bwk out p.toNat out.length 0 [] with
|none=>rw [hb] at h;cases h
|some x =>
  rw [hb] at h
  simp only at h
  split at h
  ·cases h
   rw [List.length_reverse,jQ _ _ _ _ _ _ hb];simp
  ·cases h
theorem Ye {R:List Int} (m1:1<=m) (m2:m<=65536) (h:Ik m p s R=some (t,r2)):(t.length:Int)=m/\∃ k,r2=R.drop k:=by
 rw [Ik] at h
 split at h
 ·split at h
  ·cases h
  ·rename_i last many hc
   split at h
   ·split at h
    ·cases h
    ·rename_i x hx
     cases h
     rw [jP hx]
     exact ⟨wW m1 m2 hc,_,rfl⟩
   ·cases h
 ·cases h
def A1z (w0:World) (o:List Int × Nat × Bool) (rs:Rws) (ss:List Sl) (x:Ending) (w':World):Prop:=∃ X v e,x=.returned (.tuple #[v,.int .i64 o.2.1,.int .i64 e])/\(e=0 ↔ o.2.2=true)/\Lies 1 X v o.1.length (vs .u8 o.1)/\Own w0 w' (X++rs) ss
def Ij (l:List Int):List Int × Nat × Bool:=match DI ⟨0,0,0⟩ l with
|none=>([],0,false)
|some (n,R)=>IW n (R.length+1) R [] 0
theorem bQ (h:BO n .mark left=none):IW n (f+1) left x b=(x,b,false):=by rw [IW,h]
theorem bP {rest:List Int} (h:BO n .mark left=some (.tail s,rest)):IW n (f+1) left x b=if s=crc 0 [x] then (if 0 < rest.length then (x,b,false) else (x,b,true)) else (x,b,false):=by rw [IW,h]
theorem lM {n m p s:Int} {f:Nat} {left x rest:List Int} {b:Nat} (h:BO n .mark left=some (.block m p s,rest)):IW n (f+1) left x b=match Ik m p s rest with
  |none=>(x,b,false)
  |some (t,r2)=>IW n f r2 (x++t) (b+1):=by rw [IW,h];rfl
theorem RG {n:Int}:∀ (l:List Int) (t:MT) (r:MR) (R:List Int),BO n t l=some (r,R)->(∃ m p s,r=.block m p s)\/∃ s,r=.tail s
|[],_,_,_,h=>by cases h
|x::l,t,r,R,h=>by
  rw [BO] at h
  cases hr:MT.step n x t with
 |go t2=>rw [hr] at h;exact RG l t2 r R h
 |block m p s=>rw [hr] at h;cases h;exact .inl ⟨_,_,_,rfl⟩
 |tail s=>rw [hr] at h;cases h;exact .inr ⟨_,rfl⟩
 |bad=>rw [hr] at h;cases h
set_option maxHeartbeats 4000000
set_option maxRecDepth 100000
theorem Uw {P:Program} {a:Act} {w:World} {Q:Exit->Act->World->Prop} {c rest:Code} (l:Nat) (J:Act->World->Prop) (μ:Act->World->Nat) (hf:findLabel c l=some (Code.seq .skip rest))
  (pass:∀ a w,J a w->rest.wp P (Exit.jump l (fun a' w'=>J a' w'/\μ a' w' < μ a w) Q) a w)
  (first:(∀ a w,J a w->rest.wp P (Exit.jump l J Q) a w)->c.wp P (Exit.jump l J Q) a w):(Code.scope c).wp P Q a w :=
 wp_scope_jumps l J μ hf (first fun a w h=>wp_mono (pass a w h) (fun e a w he=>by cases e<;>first|exact he|exact ⟨he.1,he.2.1⟩)) fun a w h=>wp_seq (wp_skip (pass a w h))
theorem sz80 (m n:Int):(#[.int .i64 m]:Array Value).size=(#[.int .i64 n]:Array Value).size:=rfl
def slLen:Value->Nat
|.slice _ n _=>n
|_=>0
theorem Lies.inC {w w0:World} {A X rs:Rws} {ss:List Sl} {v:Value} {k:IntKind} {l:List Int} (h:Lies 1 X v l.length (vs k l)) (hm:Own w0 w (A++(X++rs)) ss):InC k w v l:=by
 obtain ⟨ad,c,rfl,hc⟩:=h.Pe
 obtain ⟨ad2,c2,he,h2⟩:=h.gZ hm
 cases he
 exact ⟨_,_,rfl,hc,h2⟩
theorem Own.re4 {w0 w:World} {a b:Nat × Array Value} {T V X Y rs:Rws} {ss:List Sl} (h:Own w0 w (T++(V++(a::b::(X++(Y++rs))))) ss):Own w0 w (b::(X++(T++(V++rs)))) ss:=by
 have e:(a::b::(X++(T++(V++(Y++rs))))).Perm (T++(V++(a::b::(X++(Y++rs))))):=by
  have e1:=Fq (T++V) ([a,b]++X) (Y++rs)
  simpa only [s2,List.append_assoc] using e1
 exact (h.perm e).dropRow.sub (((List.Sublist.append (List.Sublist.refl X) (List.Sublist.append (List.Sublist.refl T) (List.Sublist.append (List.Sublist.refl V) (List.sublist_append_right Y rs))))).cons_cons b) (List.Sublist.refl _)
def RJ (w0:World) (l:List Int) (n:Int) (rs:Rws) (ss:List Sl) (v:Value) (a:Act) (w:World):Prop:=∃ (x left:List Int) (b f g5:Nat) (X Y:Rws) (vx vl u1 u4 u7 u8 u9 u10 u11 u12 u13 u14 u15 u16 u17 u18 u19 u20 u21 u22 u23 u24 u25 u26 u27 u28 u29 u30 u31 u32 u33 u34 u35 u36 u37 u38 u39 u40 u41 u42 u43 u44 u45 u46 u47 u48 u49 u50 u51 u52 u53 u54 u55 u56 u57 u58 u59 u60 u61 u62 u63 u64 u65 u66 u67 u68 u69 u70 u71 u72 u73 u74 u75:Value),a={ tmps:=(v::u1::vx::(.int .i64 b)::u4::(.pointer (some ⟨g5,0,none⟩))::vl::u7::u8::u9::u10::u11::u12::u13::u14::u15::u16::u17::u18::u19::u20::u21::u22::u23::u24::u25::u26::u27::u28::u29::u30::u31::u32::u33::u34::u35::u36::u37::u38::u39::u40::u41::u42::u43::u44::u45::u46::u47::u48::u49::u50::u51::u52::u53::u54::u55::u56::u57::u58::u59::u60::u61::u62::u63::u64::u65::u66::u67::u68::u69::u70::u71::u72::u73::u74::u75::[]).toArray,defers:=[] }/\Lies 1 X vx x.length (vs .u8 x)/\Lies 1 Y vl left.length (vs .u8 left)/\Bytes left/\b+left.length<=1000/\x.length+65536 * left.length<=65536000/\left.length < f/\Ij l=IW n f left x b/\Own w0 w ((g5,#[.int .i64 n])::(X++(Y++rs))) ss
theorem sH (v:Value) (l:List Int) (w0 w:World) (rs:Rws) (ss:List Sl) (hm:Own w0 w rs ss) (hv:∀ W,Own w0 W rs ss->InC .u8 W v l) (hb:Bytes l) (hn:l.length<=1000):Calls Tryz.prog 13 #[v] w (A1z w0 (Ij l) rs ss):=by
 have C45:Hid (∀ W,Own w0 W rs ss->Calls Tryz.prog 45 #[v] W (yM w0 (DI ⟨0,0,0⟩ l) rs ss)):=Lib.hid fun W h=>nC v l w0 W rs ss h hv hb hn
 obtain ⟨i22,hEM⟩:=nP
 have HEM:=Lib.hid hEM
 clear hEM
 have hok:=fun n R=>Va l ⟨0,0,0⟩ n R (.inl ⟨by decide,by decide,rfl,rfl⟩) hb
 cases hH:DI ⟨0,0,0⟩ l with
|none =>
  rw [hH] at C45
  have HRes:Hid (Ij l=([],0,false)):=Lib.hid (by rw [Ij,hH])
  clear hok hH hb hv
  go_enter Tryz.func13,Tryz.ntmps13
  go_wp2
  refine wp_scope_jumps 0 (fun _ _=>False) (fun _ _=>0) rfl ?_ (fun _ _ h=>h.elim)
  go_wp2_with (first
   |(with_reducible refine wa 80 hm qg ?_;clear hm;intro w g5 hm)
   |(with_reducible refine ws 80 0 hm ?_;clear hm;intro w hm)
   |(go_at_call 45;have _t:=hm;refine (C45.out _ hm).mono ?_;clear _t hm;rintro x w1 ⟨e,he,rfl,hm⟩;have q1:(e != 0)=true:=bne_iff_ne.2 he;have HE0:=Lib.hid he;clear he))
  simp only [Exit.jump]
  refine bodyPost_ret (results_tmp3 rfl _ _ _) rfl ?_
  rw [HRes.out]
  exact ⟨[],_,e,rfl,⟨fun h=>absurd h HE0.out,fun h=>by cases h⟩,Lies.nil 1,hm.dropRow⟩
|some o =>
  obtain ⟨n,R⟩:=o
  obtain ⟨hn1,hn2,hRB,hRl⟩:=hok n R hH
  rw [hH] at C45
  have HN:Hid (1<=n/\n<=65536):=Lib.hid ⟨hn1,hn2⟩
  have HRB:=Lib.hid hRB
  have HRes0:Hid (Ij l=IW n (R.length+1) R [] 0):=Lib.hid (by rw [Ij,hH])
  have HRL:Hid (R.length<=1000):=Lib.hid (by omega)
  clear hok hH hb hv hn1 hn2 hRB hRl
  go_enter Tryz.func13,Tryz.ntmps13
  go_wp2
  refine Uw 0 (RJ w0 l n rs ss v) (fun a _=>slLen (a.tmps.getD 6 undef)) rfl ?_ ?_
  ·clear hm C45
   rintro a w ⟨x,left,b,f,g5,X,Y,vx,vl,u1,u4,u7,u8,u9,u10,u11,u12,u13,u14,u15,u16,u17,u18,u19,u20,u21,u22,u23,u24,u25,u26,u27,u28,u29,u30,u31,u32,u33,u34,u35,u36,u37,u38,u39,u40,u41,u42,u43,u44,u45,u46,u47,u48,u49,u50,u51,u52,u53,u54,u55,u56,u57,u58,u59,u60,u61,u62,u63,u64,u65,u66,u67,u68,u69,u70,u71,u72,u73,u74,u75,rfl,hX,hY,hbl,hb1,hx1,hf,hR,hm⟩
   obtain ⟨f,rfl⟩:∃ k,f=k+1:=⟨f - 1,by omega⟩
   obtain ⟨adX,cX,rfl⟩:=hX.shape
   obtain ⟨adY,cY,rfl⟩:=hY.shape
   have HX:=Lib.hid hX
   have HY:=Lib.hid hY
   have HBL:=Lib.hid hbl
   have HXL:Hid (x.length<=65536000):=Lib.hid (by omega)
   have C46:Hid (∀ W,Own w0 W ((g5,#[.int .i64 n])::(X++(Y++rs))) ss->Calls Tryz.prog 46 #[.int .i64 n,.slice adY left.length cY] W (yN w0 (BO n .mark left) ((g5,#[.int .i64 n])::(X++(Y++rs))) ss)):=Lib.hid fun W h=>VB _ n HN.out.1 HN.out.2 left w0 W _ ss h (fun W h=>HY.out.inC (A:=_::X) h) HBL.out (by omega)
   have HB1:=Lib.hid hb1
   have HX1:=Lib.hid hx1
   have HF:=Lib.hid hf
   have hok:=fun r R=>Ph HN.out.1 HN.out.2 left .mark r R trivial HBL.out
   have hend:=fun r R=>RG (n:=n) left .mark r R
   cases hM:BO n .mark left with
  |none =>
    have HRes:Hid (Ij l=(x,b,false)):=Lib.hid (hR.trans (bQ hM))
    rw [hM] at C46
    clear hX hY hbl hb1 hx1 hf hR hok hend hM
    go_wp2_with (first
     |(with_reducible refine wa 88 hm FM ?_;clear hm;intro w g7 hm)
     |(with_reducible refine ws 88 0 hm ?_;clear hm;intro w hm)
     |(with_reducible refine wl 3 0 hm ?_)
     |(go_at_call 46;have _t:=hm;refine (C46.out _ hm).mono ?_;clear _t hm;rintro x w1 ⟨e,he,rfl,hm⟩;have q1:(e != 0)=true:=bne_iff_ne.2 he;have HE0:=Lib.hid he;clear he))
    simp only [Exit.jump]
    refine bodyPost_ret (results_tmp3 rfl _ _ _) rfl ?_
    rw [HRes.out]
    exact ⟨X,_,e,rfl,⟨fun h=>absurd h HE0.out,fun h=>by cases h⟩,HX.out,hm.sub (((List.Sublist.append (List.Sublist.refl X) (List.sublist_append_right Y rs)).cons _).cons _) (List.Sublist.refl _)⟩
  |some o =>
    obtain ⟨r,R⟩:=o
    obtain ⟨hok1,hok2,hok3⟩:=hok r R hM
    rw [hM] at C46
    rcases hend r R hM with ⟨m,p,s,rfl⟩|⟨s,rfl⟩
    ·have hm12:1<=m/\m<=65536:=by simp only [MR.ok] at hok1;have:=HN.out;omega
     have C47:Hid (∀ W {a:Nat × Array Value},Own w0 W (a::(g5,#[.int .i64 n])::(X++(Y++rs))) ss->Calls Tryz.prog 47 #[.int .i64 n,.slice adY left.length cY] W (A1y w0 (Ik m p s R) (a::(g5,#[.int .i64 n])::(X++(Y++rs))) ss)):=Lib.hid fun W a h=>aN _ n HN.out.1 HN.out.2 left m p s R hM w0 W _ ss h (fun W h=>HY.out.inC (A:=_::_::X) h) HBL.out (by omega)
     have hR2:=hR.trans (lM hM)
     have hfa:=fun t r2=>Ye (s:=s) (p:=p) (R:=R) (t:=t) (r2:=r2) hm12.1 hm12.2
     have HMS:MR.st (.block m p s)=MS 4 0 0 m p s 4:=rfl
     cases hB:Ik m p s R with
    |none =>
      rw [hB] at hR2 C47
      have HRes:Hid (Ij l=(x,b,false)):=Lib.hid hR2
      clear hX hY hbl hb1 hx1 hf hR hok hend hM hok1 hok2 hok3 hm12 hR2 hfa hB
      go_wp2_with (first
       |(with_reducible refine wa 88 hm FM ?_;clear hm;intro w g7 hm)
       |(with_reducible refine ws 88 0 hm ?_;clear hm;intro w hm)
       |(with_reducible (first|refine wl 3 0 hm ?_|refine wl 3 1 hm ?_))
       |(go_at_call 46;have _t:=hm;refine (C46.out _ hm).mono ?_;clear _t hm;rintro x w1 ⟨V0,v0,rfl,hV0,hm⟩;obtain ⟨ad0,c0,rfl⟩:=hV0.shape;clear hV0;replace hm:=hm.sub (List.sublist_append_right V0 _) (List.Sublist.refl _))
       |(go_at_call 47;have _t:=hm;refine (C47.out _ hm).mono ?_;clear _t hm;rintro x w1 ⟨e,he,rfl,hm⟩;have q1:(e != 0)=true:=bne_iff_ne.2 he;have HE0:=Lib.hid he;clear he))
      simp only [Exit.jump]
      refine bodyPost_ret (results_tmp3 rfl _ _ _) rfl ?_
      rw [HRes.out]
      exact ⟨X,_,e,rfl,⟨fun h=>absurd h HE0.out,fun h=>by cases h⟩,HX.out,hm.sub (((List.Sublist.append (List.Sublist.refl X) (List.sublist_append_right Y rs)).cons _).cons _) (List.Sublist.refl _)⟩
    |some o =>
      obtain ⟨t,r2⟩:=o
      rw [hB] at hR2 C47
      obtain ⟨ht,k,rfl⟩:=hfa t r2 hB
      have HRes:Hid (Ij l=IW n f (R.drop k) (x++t) (b+1)):=Lib.hid hR2
      have HTL:Hid (t.length<=65536):=Lib.hid (by omega)
      have HDB:Hid (Bytes (R.drop k)):=Lib.hid (fun y hy=>hok2 y (List.mem_of_mem_drop hy))
      have hdl:(R.drop k).length+1<=left.length:=by rw [List.length_drop];omega
      have HDL:=Lib.hid hdl
      have hb2:b<=100000:=by omega
      clear hX hY hbl hb1 hx1 hf hR hok hend hM hok1 hok2 hok3 hm12 hR2 hfa hB hdl ht
      generalize R.drop k=left2 at *
      go_wp2_with (first
       |(with_reducible refine wa 88 hm FM ?_;clear hm;intro w g7 hm)
       |(with_reducible refine ws 88 0 hm ?_;clear hm;intro w hm)
       |(with_reducible (first|refine wl 3 0 hm ?_|refine wl 3 1 hm ?_))
       |(go_at_call 46;have _t:=hm;refine (C46.out _ hm).mono ?_;clear _t hm;rintro x w1 ⟨V0,v0,rfl,hV0,hm⟩;obtain ⟨ad0,c0,rfl⟩:=hV0.shape;clear hV0;replace hm:=hm.sub (List.sublist_append_right V0 _) (List.Sublist.refl _))
       |(go_at_call 47;have _t:=hm;refine (C47.out _ hm).mono ?_;clear _t hm;rintro x w1 ⟨T,V,vt,vr,rfl,hT,hV,hm⟩;replace hm:=hm.re4;obtain ⟨adt,ct,rfl⟩:=hT.shape;obtain ⟨adr,cr,rfl⟩:=hV.shape;have HT:=Lib.hid hT;have HV:=Lib.hid hV;clear hT hV)
       |(refine Ad rfl (GR (A:=[_]) (X:=X) hm rfl HEM.out (Ac rfl) HX.out (Ac rfl) (fun W h=>HT.out.from (A:=(_::X)) h) (Ic _ _) (by have:=HXL.out;have:=HTL.out;omega) (by have:=HXL.out;have:=HTL.out;omega) (by omega) ?_);clear hm;intro X2 v3 w hX2 hm;simp only [s2] at hm;obtain ⟨ad3,c3,rfl⟩:=hX2.shape;have HX2:=Lib.hid hX2;clear hX2))
      go_step3
      refine ⟨rfl,⟨x++t,left2,b+1,f,g5,X2,V,_,_,_,_,_,_,_,_,_,_,_,_,_,_,_,_,_,_,_,_,_,_,_,_,_,_,_,_,_,_,_,_,_,_,_,_,_,_,_,_,_,_,_,_,_,_,_,_,_,_,_,_,_,_,_,_,_,_,_,_,_,_,_,_,_,_,_,_,_,_,_,_,_,rfl,by rw [List.length_append,P7];exact HX2.out,HV.out,HDB.out,by have:=HB1.out;have:=HDL.out;omega,by rw [List.length_append];have:=HX1.out;have:=HDL.out;have:=HTL.out;omega,by have:=HF.out;have:=HDL.out;omega,HRes.out,hm.sub ((List.Sublist.append (List.Sublist.refl X2) (List.sublist_append_right T _)).cons_cons _) (List.Sublist.refl _)⟩,?_⟩
      show left2.length < left.length
      have:=HDL.out
      omega
    ·have hR2:=hR.trans (bP hM)
     have HMS:MR.st (.tail s)=MS 6 0 0 0 0 s 4:=rfl
     have CF:Hid (∀ W (gq:Nat) {a b:Nat × Array Value},Own w0 W ((gq,#[.slice adX x.length cX])::a::b::(X++(Y++rs))) ss->Calls Tryz.prog 48 #[.slice (some ⟨gq,0,none⟩) 1 1] W fun e w'=>(e=.returned (.int .u32 (crc 0 [x])))/\Below W.heap.size W w'):=Lib.hid fun W gq a b h=>jM _ [x] W (InS.one h (HX.out.ny (A:=[(gq,#[.slice adX x.length cX]),a,b]) h)) (by
      intro p hp
      obtain rfl:p=x:=by simpa using hp
      have:=HXL.out
      omega) (by simp)
     have HR2:=Lib.hid hR2
     obtain ⟨i34,hE34⟩:=wO
     have HE34:=Lib.hid hE34
     clear hE34 hX hY hbl hb1 hx1 hf hR hok hend hM hok1 hok2 hok3 hR2
     generalize crc 0 [x]=c at *
     go_upto_region 12 with (first
      |(with_reducible refine wa 88 hm FM ?_;clear hm;intro w g7 hm)
      |(with_reducible refine ws 88 0 hm ?_;clear hm;intro w hm)
      |(with_reducible refine wl 3 0 hm ?_)
      |(go_at_call 46;have _t:=hm;refine (C46.out _ hm).mono ?_;clear _t hm;rintro x w1 ⟨V0,v0,rfl,hV0,hm⟩;obtain ⟨ad0,c0,rfl⟩:=hV0.shape;clear hV0;replace hm:=hm.sub (List.sublist_append_right V0 _) (List.Sublist.refl _)))
     refine rO hm 8 (.rds [(0,false),(1,false),(2,true),(3,false)] (.one 4 (.one 5 (.rds [(6,false),(7,false)] .done)))) ?_
     clear hm
     intro w hm
     simp only [KT.rds]
     iterate 2 refine kq ?_
     refine km (fun W hm=>ld 0 hm rfl rfl rfl (ot rfl) rfl) ?_
     refine kq ?_
     (refine Bo rfl rfl (JQ hm rfl HE34.out (Ac rfl) rfl ?_))
     clear hm
     intro w gq hm
     refine ⟨fun W=>Own _ W _ _,fun _ h=>h,hm.dropRow,?_⟩
     try simp only [Act.put,s3]
     refine DJ rfl rfl (fun K hK=>?_)
     go_simp
     refine (CF.out _ _ hm).mono ?_
     rintro e w1 ⟨rfl,hb⟩
     replace hm:=hm.call hb
     clear hb
     refine hK _ _ ⟨fun W=>Own _ W _ _,fun _ h=>h,hm.dropRow,?_⟩
     clear hK K
     iterate 2 refine kq ?_
     refine Ba ?_
     go_simp
     by_cases hc:s=c
     ·subst hc
      have HR3:=Lib.hid (HR2.out.trans (if_pos rfl))
      clear HR2
      by_cases hr:R.length=0
      ·have HRes:Hid (Ij l=(x,b,true)):=Lib.hid (HR3.out.trans (if_neg (by omega)))
       obtain rfl:R=[]:=List.eq_nil_of_length_eq_zero hr
       clear HR3 hr
       go_wp2
       simp only [Exit.jump]
       refine bodyPost_ret (results_tmp3 rfl _ _ _) rfl ?_
       rw [HRes.out]
       exact ⟨X,_,0,rfl,by simp,HX.out,hm.sub ((((List.Sublist.append (List.Sublist.refl X) (List.sublist_append_right Y rs)).cons _).cons _).cons _) (List.Sublist.refl _)⟩
      ·have HRes:Hid (Ij l=(x,b,false)):=Lib.hid (HR3.out.trans (if_pos (by omega)))
       have q3:(0:Int) < (R.length:Int):=by omega
       clear HR3 hr
       go_wp2
       simp only [Exit.jump]
       refine bodyPost_ret (results_tmp3 rfl _ _ _) rfl ?_
       rw [HRes.out]
       exact ⟨X,_,261,rfl,by simp,HX.out,hm.sub ((((List.Sublist.append (List.Sublist.refl X) (List.sublist_append_right Y rs)).cons _).cons _).cons _) (List.Sublist.refl _)⟩
     ·have HRes:Hid (Ij l=(x,b,false)):=Lib.hid (HR2.out.trans (if_neg hc))
      have q2:(s != c)=true:=by simpa using hc
      have q3:decide (s=c)=false:=by simpa using hc
      have q4:(s == c)=false:=by simpa using hc
      clear HR2 hc
      go_wp2
      simp only [Exit.jump]
      refine bodyPost_ret (results_tmp3 rfl _ _ _) rfl ?_
      rw [HRes.out]
      exact ⟨X,_,260,rfl,by simp,HX.out,hm.sub ((((List.Sublist.append (List.Sublist.refl X) (List.sublist_append_right Y rs)).cons _).cons _).cons _) (List.Sublist.refl _)⟩
  ·intro PS
   go_wp2_with (first
    |(with_reducible refine wa 80 hm qg ?_;clear hm;intro w g5 hm)
    |(with_reducible refine ws 80 0 hm ?_;clear hm;intro w hm)
    |(go_at_call 45;have _t:=hm;refine (C45.out _ hm).mono ?_;clear _t hm;rintro x w1 ⟨X0,v0,rfl,hX0,hm⟩;obtain ⟨ad0,c0,rfl⟩:=hX0.shape;have HX0:=Lib.hid hX0;clear hX0))
   go_step3
   refine (‹∀ (a:Act) (w:World),Code.wp _ _ _ a w->_›) _ _ (PS _ _ ⟨[],R,0,R.length+1,g5,[],X0,_,_,_,_,_,_,_,_,_,_,_,_,_,_,_,_,_,_,_,_,_,_,_,_,_,_,_,_,_,_,_,_,_,_,_,_,_,_,_,_,_,_,_,_,_,_,_,_,_,_,_,_,_,_,_,_,_,_,_,_,_,_,_,_,_,_,_,_,_,_,_,_,_,rfl,Lies.nil 1,HX0.out,HRB.out,by have:=HRL.out;omega,by have:=HRL.out;simp;omega,by omega,HRes0.out,hm⟩)
set_option maxHeartbeats 400000
variable {c c2:Cf} {ev:Evt} {e g k m n p s:Int} {ended:Nat}
def PS.inB:PS->Bool
|.table _ _ _ _ _=>true
|.syms _ _ _ _ _ _ _ _=>true
|.pad _ _ _ _=>true
|_=>false
def EI (c:Cf) (m g:Int):Prop:=Bytes c.R/\match c.s with
|.head t=>t.ok
|.mark n t=>(1<=n/\n<=65536)/\t.ok n
|.table n k _ _ _=>(1<=n/\n<=65536)/\(1<=k/\k<=65536)/\m=k/\g=0
|.syms n k _ _ _ _ _ b=>(1<=n/\n<=65536)/\m=k/\g+b.left=m/\0<=b.left
|.pad n k _ _=>(1<=n/\n<=65536)/\m=k/\g=m
|_=>True
def EIev (b:Bool) (c2:Cf) (m g:Int):Evt->Prop
|.block k _ _=>(0<=k/\k<=65536)/\EI c2 k 0/\c2.s.inB=true
|.bytes t=>b=true/\g+t.length<=m/\EI c2 m (g+t.length)/\c2.s.inB=true
|.U5 _ _ _=>b=true/\g=m/\EI c2 m g/\c2.s.inB=false
|_=>EI c2 m g/\c2.s.inB=false
def EIo (b:Bool) (c2:Cf) (m g:Int):Option Evt->Prop
|none=>EI c2 m g/\c2.s.inB=b
|some ev=>EIev b c2 m g ev
theorem TY {R:List Int} (h:Bytes R) (k:Nat):Bytes (R.drop k):=fun x hx=>h x (List.mem_of_mem_drop hx)
theorem EI.step {c:Cf} {m g:Int} (h:EI c m g):EIo c.s.inB (AB c).2 m g (AB c).1:=by
 obtain ⟨s,R,j⟩:=c
 obtain ⟨hb,h⟩:=h
 simp only at hb
 cases s with
|head t =>
  simp only at h
  cases R with
 |nil=>exact ⟨⟨hb,trivial⟩,rfl⟩
 |cons x R =>
   have h0:=hb x (by simp)
   have hb2:Bytes R:=fun y hy=>hb y (List.mem_cons_of_mem _ hy)
   have hok:=HT.step_ok h h0.1 (show x<=255 by omega)
   simp only [AB]
   cases hr:t.step x with
  |go t2=>rw [hr] at hok;exact ⟨⟨hb2,hok⟩,rfl⟩
  |done n=>rw [hr] at hok;exact ⟨⟨hb2,hok,trivial⟩,rfl⟩
  |bad e=>exact ⟨⟨hb2,trivial⟩,rfl⟩
|mark n t =>
  simp only at h
  cases R with
 |nil=>exact ⟨⟨hb,trivial⟩,rfl⟩
 |cons x R =>
   have h0:=hb x (by simp)
   have hb2:Bytes R:=fun y hy=>hb y (List.mem_cons_of_mem _ hy)
   have hok:=MT.step_ok h.1.1 h.1.2 h.2 h0.1 (show x<=255 by omega)
   simp only [AB]
   cases hr:MT.step n x t with
  |go t2=>rw [hr] at hok;exact ⟨⟨hb2,h.1,hok⟩,rfl⟩
  |block k p s=>rw [hr] at hok;have:=h.1;simp only [MR.ok] at hok;exact ⟨⟨by omega,by omega⟩,⟨hb2,h.1,⟨by omega,by omega⟩,rfl,rfl⟩,rfl⟩
  |tail s=>exact ⟨⟨hb2,trivial⟩,rfl⟩
  |bad=>exact ⟨⟨hb2,trivial⟩,rfl⟩
|table n k p s t =>
  obtain ⟨hn,hk,rfl,rfl⟩:=h
  simp only [AB]
  split
  ·rw [Oj]
   split
   ·split
    ·exact ⟨⟨hb,hn,rfl,by rw [Oi (by omega) (by omega)];simp,by rw [Oi (by omega) (by omega)];simp only;omega⟩,rfl⟩
    ·exact ⟨⟨hb,hn,hk,rfl,rfl⟩,rfl⟩
   ·exact ⟨⟨hb,trivial⟩,rfl⟩
  ·exact ⟨⟨hb,trivial⟩,rfl⟩
|syms n k p s L q i b =>
  obtain ⟨hn,rfl,hg,hl⟩:=h
  simp only [AB]
  split
  ·rw [eY]
   split
   ·have hd:=Xv b (pfs L q i (AP R j)).2.2.1
    generalize FY b (pfs L q i (AP R j)).2.2.1=d at *
    rw [MQ]
    split
    ·rename_i h0
     obtain ⟨h1,h2,h3⟩:=hd h0
     by_cases ht:0 < d.2.1.length
     ·rw [if_pos ht]
      refine ⟨rfl,by omega,⟨hb,?_⟩,?_⟩
      ·cases hf:d.2.2.1 with
      |true=>have:=h3 hf;exact ⟨hn,rfl,by omega⟩
      |false=>exact ⟨hn,rfl,by omega,h2⟩
      ·cases d.2.2.1<;>rfl
     ·rw [if_neg ht]
      refine ⟨⟨hb,?_⟩,?_⟩
      ·cases hf:d.2.2.1 with
      |true=>have:=h3 hf;exact ⟨hn,rfl,by omega⟩
      |false=>exact ⟨hn,rfl,by omega,h2⟩
      ·cases d.2.2.1<;>rfl
    ·exact ⟨⟨hb,trivial⟩,rfl⟩
   ·exact ⟨⟨hb,hn,rfl,hg,hl⟩,rfl⟩
  ·exact ⟨⟨hb,trivial⟩,rfl⟩
|pad n k p s =>
  obtain ⟨hn,rfl,hg⟩:=h
  simp only [AB]
  split
  ·exact ⟨rfl,hg,⟨TY hb _,hn,trivial⟩,rfl⟩
  ·exact ⟨⟨TY hb _,trivial⟩,rfl⟩
|behind =>
  simp only [AB]
  split
  ·exact ⟨⟨hb,trivial⟩,rfl⟩
  ·exact ⟨⟨hb,trivial⟩,rfl⟩
|over=>exact ⟨⟨hb,trivial⟩,rfl⟩
|bad e=>exact ⟨⟨hb,trivial⟩,rfl⟩
theorem Nx.ei (h:Nx c ev c2) (hi:EI c m g):EIev c.s.inB c2 m g ev:=by
 induction h with
|now h=>have:=hi.step;rwa [h] at this
|later h _ ih =>
  have:=hi.step
  rw [h] at this
  have h2:=ih this.1
  rwa [this.2] at h2
def LI (res:List Int × Nat × Bool) (c:Cf) (ended bytes:Nat) (g:Int):Prop :=
 (∃ out x,G c out x ended=res/\x.length=bytes/\(c.s.inB=true->(out.length:Int)=g))\/(res.2.1<=ended/\res.1.length<=bytes/\res.2.2=false)
theorem LI.block {res:List Int × Nat × Bool} {bytes:Nat} (h:LI res c ended bytes g) (hn:Nx c (.block k p s) c2):LI res c2 ended bytes 0:=by
 rcases h with ⟨out,x,h1,h2,h3⟩|h
 ·rw [hn.read] at h1
  exact .inl ⟨[],x,h1,h2,fun _=>rfl⟩
 ·exact .inr h
theorem LI.bytes {res:List Int × Nat × Bool} {c c2:Cf} {t:List Int} {ended bytes:Nat} {g:Int} (h:LI res c ended bytes g) (hn:Nx c (.bytes t) c2) (hb:c.s.inB=true):LI res c2 ended bytes (g+t.length):=by
 rcases h with ⟨out,x,h1,h2,h3⟩|h
 ·rw [hn.read] at h1
  exact .inl ⟨out++t,x,h1,h2,fun _=>by rw [List.length_append];have:=h3 hb;omega⟩
 ·exact .inr h
theorem LI.U5 {res:List Int × Nat × Bool} {bytes g:Nat} (h:LI res c ended bytes g) (hn:Nx c (.U5 k p s) c2) (hb:c.s.inB=true) (hc:c2.s.inB=false):LI res c2 (ended+1) (bytes+g) g:=by
 rcases h with ⟨out,x,h1,h2,h3⟩|⟨h1,h2,h3⟩
 ·rw [hn.read] at h1
  have h4:=h3 hb
  simp only [Gev] at h1
  cases hk:chk out p s with
 |none =>
   rw [hk] at h1
   subst h1
   exact .inr ⟨by simp,by simp only;omega,rfl⟩
 |some t =>
   rw [hk] at h1
   exact .inl ⟨[],x++t,h1,by rw [List.length_append,jP hk];omega,fun h=>by rw [hc] at h;cases h⟩
 ·exact .inr ⟨by omega,by omega,h3⟩
theorem LI.tail {res:List Int × Nat × Bool} {bytes:Nat} (h:LI res c ended bytes g) (hn:Nx c (.tail s) c2) (hc:c2.s.inB=false):LI res c2 ended bytes g:=by
 rcases h with ⟨out,x,h1,h2,h3⟩|h
 ·rw [hn.read] at h1
  simp only [Gev] at h1
  split at h1
  ·exact .inl ⟨out,x,h1,h2,fun h=>by rw [hc] at h;cases h⟩
  ·subst h1
   exact .inr ⟨by simp,by simp only;omega,rfl⟩
 ·exact .inr h
theorem LI.head {res:List Int × Nat × Bool} {bytes:Nat} (h:LI res c ended bytes g) (hn:Nx c (.head n) c2) (hc:c2.s.inB=false):LI res c2 ended bytes g:=by
 rcases h with ⟨out,x,h1,h2,h3⟩|h
 ·rw [hn.read] at h1
  exact .inl ⟨out,x,h1,h2,fun h=>by rw [hc] at h;cases h⟩
 ·exact .inr h
theorem LI.fin {res:List Int × Nat × Bool} {bytes:Nat} (h:LI res c ended bytes g) (hn:Nx c .fin c2):res.2.1<=ended/\res.1.length<=bytes/\(res.2.2=true->res.2.1=ended/\res.1.length=bytes):=by
 rcases h with ⟨out,x,h1,h2,h3⟩|⟨h1,h2,h3⟩
 ·rw [hn.read] at h1
  simp only [Gev] at h1
  subst h1
  exact ⟨by simp,by simp only;omega,fun _=>⟨rfl,h2⟩⟩
 ·exact ⟨h1,h2,fun h=>by rw [h3] at h;cases h⟩
theorem LI.bad {res:List Int × Nat × Bool} {bytes:Nat} (h:LI res c ended bytes g) (hn:Nx c (.bad e) c2):res.2.1<=ended/\res.1.length<=bytes/\res.2.2=false:=by
 rcases h with ⟨out,x,h1,h2,h3⟩|h
 ·rw [hn.read] at h1
  simp only [Gev] at h1
  subst h1
  exact ⟨by simp,by simp only;omega,rfl⟩
 ·exact h
theorem LI.start (l:List Int):LI (Ij l) ⟨.head ⟨0,0,0⟩,l,0⟩ 0 0 0:=by
 refine .inl ⟨[],[],?_,rfl,fun h=>by cases h⟩
 rw [yQ,Ij]
 cases h:DI ⟨0,0,0⟩ l with
|none=>rfl
|some o =>
  obtain ⟨n,R⟩:=o
  exact A1C (R.length+1) R [] 0 [] (by omega)
end Go.Proofs.YtkpbhdhkdonghaaGreat
