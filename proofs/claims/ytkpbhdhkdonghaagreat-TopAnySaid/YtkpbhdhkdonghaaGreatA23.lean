/-
  Part 23 of the proof.
-/
import Derived.Test.YtkpbhdhkdonghaaGreatA20
import Derived.Test.YtkpbhdhkdonghaaGreatA22
set_option linter.all false
set_option maxHeartbeats 1000000
set_option maxRecDepth 100000
namespace Go.Proofs.YtkpbhdhkdonghaaGreat
open Go Tryz Go.RowKit
variable {a:Act} {ss:List Sl} {C:L_} {bytes g k live n:Nat} {o:Oper} {x:Operand} {P:Program} {rs:Rws} {e t:TypeId} {i:TypeInfo} {u z:Value} {w w0:World}
theorem A3A:∀ {l:I_},Bytes l->∀ (o n:Nat),Bytes (zeroAt l o n)
|l,h,o,0=>h
|l,h,o,n+1=>A3A (l:=l.set o 0) (fun x hx=>by
  rcases List.mem_or_eq_of_mem_set hx with h1|rfl
  ·exact h x h1
  ·decide) (o+1) n
theorem A4s (ho:o.op=.buildSlice t 1 #[(0,x)]) (he:OW P t e 2 bytes i z) {v:Value} (hx:a.eval x=.agg #[u,v]) (hu:u.cells=#[u]) (hv:v.cells=#[v]) :
  (execOp a.eval o).run P w=.ok (.value (.slice (some ⟨w.heap.size,0,none⟩) 1 1)) (w.alloc (.cells #[u,v] e)):=by
 have hz:(zeroValue e).run P w=.ok z w:=by simp [zeroValue,typeInfo,he.info,he.zero]
 have hs:=he.zs;unfold execOp;simp only [ho,Instr.buildSlice,s_b,r_u he.under,r_o,sizeOf,typeInfo,run_program,he.info,l_y,List.map_cons,List.map_nil,hx];have hr:Array.range 2=#[0,1]:=by decide
 simp [Instr.fill,Value.cells,he.size,newRow,hz,Result.andThen,hr]
theorem A5i {K:Value->World->Prop} (hm:Own w0 w rs ss) (ho:o.op=.buildSlice t 1 #[(0,x)]) (he:OW P t e 2 bytes i z) {v:Value} (hx:a.eval x=.agg #[u,v]) (hu:u.cells=#[u]) (hv:v.cells=#[v])
  (h:∀ w' g,Own w0 w' ((g,#[u,v])::rs) ss->K (.slice (some ⟨g,0,none⟩) 1 1) w'):Eff P o a w K :=
 Eff.val (A4s ho he hx hu hv) (h _ _ (hm.alloc #[u,v] e))
theorem A6N {v:Value} (hu:u.oneCell'=true) (hv:v.oneCell'=true):∀ x ∈ [u,v],x.oneCell'=true:=fun x hx=>by
 rcases List.mem_cons.1 hx with rfl|hx
 ·exact hu
 ·rw [List.mem_singleton.1 hx];exact hv
theorem From.two {v:Value} (h:AA w g #[u,v]):From 2 w (.slice (some ⟨g,0,none⟩) 1 1) 1 [u,v]:=by
 refine ⟨rfl,.inr ⟨_,_,rfl,fun j x hj=>?_⟩⟩;rw [Addr.add_lit,Nat.zero_add,h.cell j]
 match j,hj with
|0,hj=>simpa using hj
|1,hj=>simpa using hj
theorem A62 (ga gx live n:Nat) (l:I_) (peak:Int) (w0 w:World) (rs:Rws) (ss:List Sl) (hm:Own w0 w ((ga,AR (.slice (some ⟨gx,0,none⟩) l.length l.length) live peak)::(gx,B l)::rs) ss) (h2:live+n<=l.length) (h3:l.length<=1048576) (hb:Bytes l):Calls prog 23 #[.pointer (some ⟨ga,0,none⟩),.int .i64 n] w fun e w'=>(e=.returned (.tuple #[.agg (SP live n),.int .i64 0]))/\∃ l2:I_,l2.length=l.length/\Bytes l2/\Own w0 w' ((ga,AR (.slice (some ⟨gx,0,none⟩) l2.length l2.length) ((live+n:Nat):Int) (imax peak ((live+n:Nat):Int)))::(gx,B l2)::rs) ss:=by
 by_cases h:0 < n
 ·refine (A6k ga gx live n l peak w0 w rs ss hm h2 h3 h).mono ?_;rintro e w' ⟨rfl,hm⟩;exact ⟨rfl,_,A3x _ _ _,A3A hb _ _,by rw [A3x];exact hm⟩
 ·refine (take_zero ga gx live n l peak w0 w rs ss hm h2 h3 (by omega)).mono ?_;rintro e w' ⟨rfl,hm⟩;exact ⟨rfl,l,rfl,hb,hm⟩
def Spc (n mk:Nat) (k:Nat) (C:L_) (live:Nat):Prop:=(k=0/\C=[]/\live=0)\/(k=1/\C=[.int .i64 0,.int .i64 n]/\live=n)\/(k=2/\C=[.int .i64 0,.int .i64 n,.int .i64 n,.int .i64 mk]/\live=n+mk)
theorem Spc.step {mk:Nat} (h:Spc n mk k C live) (hk:k < 2):∃ x:Nat,gi [(n:Int),mk] k=x/\live+x<=n+mk/\Spc n mk (k+1) (C++[.int .i64 live,.int .i64 x]) (live+x):=by
 rcases h with ⟨rfl,rfl,rfl⟩|⟨rfl,rfl,rfl⟩|⟨rfl,_,_⟩
 ·exact ⟨n,rfl,by omega,.inr (.inl ⟨rfl,rfl,by omega⟩)⟩
 ·exact ⟨mk,rfl,by omega,.inr (.inr ⟨rfl,rfl,rfl⟩)⟩
 ·omega
theorem A4P (gd ga gx n:Nat) (l:I_) (bud md:Int) (pr pp sv:Value) (m p q came:Int) (bv:Value) (st told all e:Int) (kd m1 p1 s1:Int) (v:Value) (e1:Int) (w0 w:World) (rs:Rws) (ss:List Sl) (pe mo:Int) (hm:Own w0 w ((gd,DRw bud md (.pointer (some ⟨ga,0,none⟩)) pr pp sv m p q came bv st told all e)::rs) ss) (CP:Hid (∀ W,Calls prog 110 #[.int .i64 bud,.int .i64 n,.int .u8 2] W (Pol.A3b W (mo,pe)))) (hpe:pe ≠ 0):Calls prog 58 #[.pointer (some ⟨gd,0,none⟩),.agg (EVT kd n m1 p1 s1 v e1)] w fun x w'=>(x=.returned (.int .i64 pe))/\Own w0 w' ((gd,DRw bud md (.pointer (some ⟨ga,0,none⟩)) pr pp sv m p q came bv st told all e)::rs) ss:=by
 have q1:(pe != 0)=true:=by simpa using hpe
 go_enter func58,ntmps58
 go_upto_region 1 with ((with_reducible refine wb hm ?_;clear hm;intro w g hm))
 refine rO hm 6 (.rds [(0,false),(1,false),(2,false),(3,true),(4,false),(5,true)] (.brk 6 12 (.rds [(7,false),(8,false),(9,false),(10,false),(11,false)] .done))) ?_;clear hm;intro w hm;simp only [KT.rds]
 iterate 3 refine kq ?_
 refine km (fun W hm=>ld 1 hm rfl rfl rfl (ot rfl) rfl) ?_;refine kq ?_;refine km (fun W hm=>ld 0 hm rfl rfl rfl (ot rfl) rfl) ?_;refine PO rfl rfl (fun K hK=>?_);go_simp;refine (CP.out _).mono ?_;rintro e w1 ⟨rfl,hb⟩;replace hm:=hm.call hb;clear hb;refine hK _ _ ⟨fun W=>Own _ W _ _,hm,?_⟩;clear hK K
 try simp only [Act.put,s3]
 iterate 5 refine kq ?_
 refine Ba ?_;go_simp;go_wp2;exact xdf
theorem A5l (gd ga gx n:Nat) (l:I_) (bud md:Int) (pr pp:Value) (m p q came:Int) (bv:Value) (st told all e:Int) (kd m1 p1 s1:Int) (v:Value) (e1:Int) (w0 w:World) (rs:Rws) (ss:List Sl) (mk:Nat) (mo:Int) (hm:Own w0 w ((gd,DRw bud md (.pointer (some ⟨ga,0,none⟩)) pr pp (.slice none 0 0) m p q came bv st told all e)::(ga,AR (.slice (some ⟨gx,0,none⟩) l.length l.length) 0 0)::(gx,B l)::rs) ss) (CP:Hid (∀ W,Calls prog 110 #[.int .i64 bud,.int .i64 n,.int .u8 2] W (Pol.A3b W (mo,0)))) (CL:Hid (∀ W,Calls prog 94 #[.int .i64 n,.int .u8 2,.int .u8 mo] W (Pol.A38 W [(n:Int),mk] 0))) (hb:Bytes l) (hl:l.length<=1048576) (hf:n+mk<=l.length):Calls prog 58 #[.pointer (some ⟨gd,0,none⟩),.agg (EVT kd n m1 p1 s1 v e1)] w fun x w'=>(x=.returned (.int .i64 0))/\∃ (S:Rws) (sv:Value) (l2:I_) (pk:Int),Lies 2 S sv 2 [.int .i64 0,.int .i64 n,.int .i64 n,.int .i64 mk]/\l2.length=l.length/\Bytes l2/\0<=pk/\pk<=l.length/\Own w0 w' ((gd,DRw bud mo (.pointer (some ⟨ga,0,none⟩)) pr pp sv m p q came bv st told all e)::(ga,AR (.slice (some ⟨gx,0,none⟩) l2.length l2.length) ((n+mk:Nat):Int) pk)::(gx,B l2)::(S++rs)) ss:=by
 have HB:=h_ hb;clear hb;obtain ⟨i1,hE⟩:=A5v;have HE:=h_ hE;clear hE;obtain ⟨i5,hE⟩:=wM;have HE5:=h_ hE;clear hE;obtain ⟨i6,hE⟩:=Pol.A4t;have HE1:=h_ hE;clear hE;go_enter func58,ntmps58
 go_upto_region 1 with ((with_reducible refine wb hm ?_;clear hm;intro w g hm))
 refine rO hm 6 (.rds [(0,false),(1,false),(2,false),(3,true),(4,false),(5,true)] (.brk 6 12 (.rds [(7,false),(8,false),(9,false),(10,false),(11,false)] .done))) ?_;clear hm;intro w hm;simp only [KT.rds]
 iterate 3 refine kq ?_
 refine km (fun W hm=>ld 1 hm rfl rfl rfl (ot rfl) rfl) ?_;refine kq ?_;refine km (fun W hm=>ld 0 hm rfl rfl rfl (ot rfl) rfl) ?_;refine PO rfl rfl (fun K hK=>?_);go_simp;refine (CP.out _).mono ?_;rintro e w1 ⟨rfl,hb⟩;replace hm:=hm.call hb;clear hb;refine hK _ _ ⟨fun W=>Own _ W _ _,hm,?_⟩;clear hK K
 try simp only [Act.put,s3]
 iterate 5 refine kq ?_
 refine Ba ?_;go_simp
 go_wp2_with (first
  |(go_at_call 94;have _t:=hm;refine (CL.out _).mono ?_;rintro e w1 ⟨⟨r1,rfl,ho1⟩,hb1⟩;obtain ⟨a1,c1,rfl⟩:=Pol.A3X ho1;replace hm:=hm.fG hb1 (Pol.A3o ho1);clear _t ho1 hb1)
  |(with_reducible first|(refine wl 3 0 hm ?_)|(refine wc 5 1 hm ?_;clear hm;intro w hm))
   )
 go_loopw [39] (fun u wr=>∃ (k live:Nat) (C:L_) (S:Rws) (sv:Value) (l2:I_) (pk:Int),u=.int .i64 k/\k<=2/\Spc n mk k C live/\Lies 2 S sv k C/\l2.length=l.length/\Bytes l2/\0<=pk/\pk<=live/\Own w0 wr ((g,EVT kd n m1 p1 s1 v e1)::(gd,DRw bud mo (.pointer (some ⟨ga,0,none⟩)) pr pp sv m p q came bv st told all e)::(ga,AR (.slice (some ⟨gx,0,none⟩) l2.length l2.length) (live:Int) pk)::(gx,B l2)::(S++rs)) ((.slice a1 2 c1,3,vs .i64 [(n:Int),mk])::ss)) (fun u _=>2 - (intOf u).toNat)
 case atStart=>exact ⟨0,0,[],[],_,l,0,rfl,by omega,.inl ⟨rfl,rfl,rfl⟩,⟨rfl,.inl ⟨rfl,rfl,rfl,rfl⟩⟩,rfl,HB.out,by omega,by omega,hm⟩
 case round =>
  clear hm;obtain ⟨k,live,C,S,sv,l2,pk,rfl,hk,hC,hX,hl2,hb2,hp0,hp1,hm⟩:=hrel;by_cases hlt:k < 2
  ·obtain ⟨x,hx,hfx,hC2⟩:=hC.step hlt;obtain ⟨A,rfl⟩:=Src.some (l:=[(n:Int),mk]) (Src.Yo (hm.get 0 rfl)) (j:=k) (by simpa using hlt);have hcell:=(Src.Yo (hm.get 0 rfl)).at (Fg .i64 [(n:Int),mk] k (by simpa using hlt));rw [hx] at hcell;have HX:=h_ hX;have HC2:=h_ hC2;have hle:k<=1:=by omega
   have HLen:Hid (C.length=k * 2):=h_ hX.1;clear hX hC hC2 hx;have HB2:=h_ hb2;clear hb2
   go_upto_region 10 with (first
    |(go_at_call 23;have _t:=hm;refine (A62 ga gx live x l2 pk _ _ _ _ hm.A4j (by omega) (by omega) HB2.out).mono ?_;clear _t hm;rintro e2 w2 ⟨rfl,l3,hl3,hb3,hm⟩;replace hm:=hm.A4j;have HB3:=h_ hb3;clear hb3)
    |(refine A8 rfl (Am rfl HE1.out rfl rfl rfl hlt) ?_)
    |(refine A8 rfl (AU rfl rfl Pol.BG hcell) ?_)
    |(with_reducible first|(refine wl 46 1 hm ?_)|(refine wu 50 0 hm ?_;clear hm;intro w hm)|(refine wa 50 hm A70 ?_;clear hm;intro w g hm))
     )
   refine rO hm 7 (.rds [(0,false),(1,false),(2,false),(3,false),(4,true),(5,true)] (.one 6 (.brk 7 10 (.rds [(8,false),(9,false)] (.brk 10 11 .done))))) ?_;clear hm;intro w hm;simp only [KT.rds]
   iterate 4 refine kq ?_
   refine km (fun W hm=>ld 2 hm rfl rfl rfl (ot rfl) rfl) ?_;refine km (fun W hm=>ld2 0 hm rfl rfl rfl (ag rfl) rfl rfl) ?_
   (refine Bo rfl rfl (A5i hm rfl HE.out (Ac rfl) rfl rfl ?_))
   clear hm;intro w gb hm;refine ⟨fun W=>Own _ W _ _,fun _ h=>h.dropRow,hm,?_⟩
   try simp only [Act.put,s3]
   (refine Em rfl rfl (GR (A:=[_,_,_,_,_,_]) (X:=S) hm rfl HE.out (Ac rfl) HX.out (Ac rfl) (fun W h=>From.two (h.row 0 rfl)) (A6N rfl rfl) (by omega) (by omega) (by omega) ?_))
   clear hm;intro S2 v2 w hX2 hm;obtain ⟨ad2,c2,rfl⟩:=hX2.shape
   try simp only [puts,s2,List.set,List.eraseIdx,s3] at hm
   refine ⟨fun W=>Own _ W _ _,hm,?_⟩
   try simp only [Act.put,s3]
   iterate 2 refine kq ?_
   (refine Em rfl rfl (AZ 3 hm rfl rfl (Ac rfl) rfl (ot rfl) (by simp) rfl rfl rfl ?_))
   clear hm;intro w hm
   try simp only [puts,s2,List.set,List.eraseIdx,s3] at hm
   refine ⟨fun W=>Own _ W _ _,hm,?_⟩
   try simp only [Act.put,s3]
   refine Ba ?_;go_simp;go_wp2;go_roundw
   case rel=>exact ⟨k+1,live+x,_,S2,_,l3,_,by go_num,by omega,HC2.out,hX2,by omega,HB3.out,by unfold imax;split<;>omega,by unfold imax;split<;>omega,hm.dropRow.dropRow⟩
   case measure=>simp [intOf];omega
  ·obtain rfl:k=2:=by omega
   obtain ⟨rfl,rfl⟩:C=[.int .i64 0,.int .i64 n,.int .i64 n,.int .i64 mk]/\live=n+mk:=by
    rcases hC with ⟨h,_⟩|⟨h,_⟩|⟨_,h⟩
    ·omega
    ·omega
    ·exact h
   have HX:=h_ hX;clear hX;go_wp2;go_ret;exact ⟨rfl,S,sv,l2,pk,HX.out,hl2,hb2,hp0,by omega,hm.dropRow.J9⟩
end Go.Proofs.YtkpbhdhkdonghaaGreat
