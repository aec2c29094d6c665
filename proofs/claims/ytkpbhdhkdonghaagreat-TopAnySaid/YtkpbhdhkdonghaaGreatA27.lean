/-
  Part 27 of the proof.
-/
import Derived.Test.YtkpbhdhkdonghaaGreatA15
set_option linter.all false
set_option maxHeartbeats 1000000
set_option maxRecDepth 100000
namespace Go.Proofs.YtkpbhdhkdonghaaGreat
open Go Tryz Go.RowKit
theorem Ua {l:I_} (h:∀ i,i < l.length->gi l i ≠ 1):l.any (fun y=>decide (y=1))=false:=by
 rw [List.any_eq_false];intro y hy;obtain ⟨i,hi,rfl⟩:=List.getElem_of_mem hy;have:=h i hi;rw [BZ l i hi] at this;simpa using this
theorem Wh {l:I_} {k:Nat} (hk:k < l.length) (h:gi l k=1):l.any (fun y=>decide (y=1))=true:=by
 rw [List.any_eq_true];exact ⟨gi l k,by rw [BZ l k hk];exact List.getElem_mem _,by simpa using h⟩
theorem dU (v:Value) (l:I_) (w:World) (hv:In .i64 w v l) (hn:l.length<=1000000):Calls prog 145 #[v,.int .i64 1] w fun x w'=>(∃ r,x=.returned (.int .i64 r)/\decide (0<=r)=l.any (fun y=>decide (y=1)))/\Below w.heap.size w w':=by
 obtain ⟨ad,cp,rfl,hc⟩:=hv;obtain ⟨i3,hE⟩:=nR;have HE:=h_ hE;have HC:=h_ hc;clear hE hc;go_enter func145,ntmps145;have hm:=Own.nil w;go_wp2
 go_loopw [8] (fun u wr=>∃ k:Nat,k<=l.length/\u=.int .i64 k/\(∀ i,i < k->gi l i ≠ 1)/\Own w wr [] []) (fun u _=>l.length - (intOf u).toNat)
 case atStart=>exact ⟨0,by omega,rfl,fun i hi=>by omega,hm⟩
 case round =>
  clear hm;obtain ⟨k,hk,rfl,hj,hm⟩:=hrel;by_cases hlt:k < l.length
  ·obtain ⟨A,rfl,hA0⟩:=HC.out k hlt;have HA:Hid (∀ W,Below w.heap.size w W->W.cell? (A.add k)=some (.int .i64 (gi l k))):=h_ fun W h=>(h.cell (block_lt_of_cell hA0)).trans hA0;have HJ:=h_ hj;clear hA0 hj;by_cases h1:gi l k=1
   ·have HR:=h_ (Wh hlt h1);rw [h1] at HA
    go_wp2_with (first
     |(with_reducible refine gIa (t:=124) ?_;(refine A8 rfl (Am rfl HE.out rfl rfl rfl hlt) ?_))
     |(with_reducible refine gLd (t:=3) ?_;(refine A8 rfl (AU rfl rfl BG (HA.out _ hm.below)) ?_)))
    go_ret;refine ⟨⟨_,rfl,?_⟩,hm.below⟩;rw [HR.out];exact decide_eq_true (by omega)
   ·have HN:=h_ h1;have q1:((1:Int) == gi l k)=false:=by simpa using fun e=>h1 e.symm
    generalize hx:gi l k=x at *;clear h1
    go_wp2_with (first
     |(with_reducible refine gIa (t:=124) ?_;(refine A8 rfl (Am rfl HE.out rfl rfl rfl hlt) ?_))
     |(with_reducible refine gLd (t:=3) ?_;(refine A8 rfl (AU rfl rfl BG (HA.out _ hm.below)) ?_)))
    go_roundw
    case rel=>exact ⟨k+1,by omega,by go_num,fun i hi=>by
     by_cases e:i=k
     ·subst e;rw [hx];exact HN.out
     ·exact HJ.out i (by omega),hm⟩
    case measure=>simp [intOf];omega
  ·obtain rfl:l.length=k:=by omega
   have HR:=h_ (Ua hj);clear hj;go_wp2;go_ret;exact ⟨⟨_,rfl,by rw [HR.out];rfl⟩,hm.below⟩
theorem UZ (v:Value) (l:I_) (w:World) (hv:In .i64 w v l) (hn:l.length<=1000000):Calls prog 105 #[v,.int .i64 1] w (RB w (.bool (l.any (fun y=>decide (y=1))))):=by
 have CI:=h_ (dU v l w hv hn);go_enter func105,ntmps105;have hm:=Own.nil w
 go_wp2_with (first
 |(go_at_call 145;have _t:=hm;refine CI.out.mono ?_;rintro e w1 ⟨⟨r,rfl,hr⟩,hb⟩;replace hm:=hm.call hb;clear hb))
 go_ret;exact ⟨by rw [<- hr];rfl,hm.below⟩
theorem ZJ (v:Value) (l:I_) (w0 w:World) (rs:Rws) (ss:List Sl) (hm:Own w0 w rs ss) (hv:∀ W,Own w0 W rs ss->Src W v (vs .u8 l)) (hn:l.length<=100000) (h0:0 < l.length):Calls prog 106 #[v] w fun x w'=>∃ X v,x=.returned v/\Lies 1 X v l.length (vs .u8 l.reverse)/\Own w0 w' (X++rs) ss:=by
 have CC:Hid (∀ W,Own w0 W rs ss->Calls prog 99 #[v] W fun x w'=>∃ g p c cells,x=.returned (.slice (some ⟨g,p,none⟩) l.length c)/\Lies 1 [(g,cells)] (.slice (some ⟨g,p,none⟩) l.length c) l.length (vs .u8 l)/\Own w0 w' ((g,cells)::rs) ss):=h_ fun W h=>by
  refine (clone_any v l W (hv W h) (by omega)).mono fun x w' hx=>?_;obtain ⟨X,v2,rfl,hX,hm⟩:=h.ofB hx;have hX2:=hX;obtain ⟨g,p,c,cells,rfl,rfl,_⟩:=hX.pos h0;exact ⟨g,p,c,cells,rfl,hX2,hm⟩
 have CR:Hid (∀ W g p c cells,Lies 1 [(g,cells)] (.slice (some ⟨g,p,none⟩) l.length c) l.length (vs .u8 l)->Own w0 W ((g,cells)::rs) ss->Calls prog 146 #[.slice (some ⟨g,p,none⟩) l.length c] W (kG w0 (.slice (some ⟨g,p,none⟩) l.length c) l rs ss)):=h_ fun W g p c cells hX h=>WR g p c cells l w0 W rs ss h hX (by omega) h0;clear hv;go_enter func106,ntmps106
 go_wp2_with (first
 |(go_at_call 99;have _t:=hm;refine (CC.out _ hm).mono ?_;clear _t hm;rintro e w1 ⟨g,p,c,cells,rfl,hX,hm⟩)
 |(go_at_call 146;have _t:=hm;refine (CR.out _ _ _ _ _ hX hm).mono ?_;clear _t hm;rintro e w1 ⟨⟨u,rfl⟩,X2,hX2,hm⟩))
 go_ret;exact ⟨X2,_,rfl,hX2,hm⟩
end Go.Proofs.YtkpbhdhkdonghaaGreat
