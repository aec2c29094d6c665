/-
  The statement: the walk put under the given row.
-/
import Derived.Test.YtkpbhdhkdonghaaGreatA40
import Derived.Test.YtkpbhdhkdonghaaGreatA41
set_option linter.all false
set_option maxHeartbeats 4000000
set_option maxRecDepth 100000
namespace Go.Proofs.YtkpbhdhkdonghaaGreat
open Go Go.RowKit Go.ChangeShapes Go.WideShapes Go.ChangeAt
set_option linter.unusedVariables false
theorem bZ {H:Type} {enc:TypeId × Value->H} {W:World} {base:Nat} {sp:Nat->Bool} {held:Bool} {v:Value} {d:DataW H} {p:List MemPlace} {r:Reach} {b0:Nat} (hok:Value.okWide Tryz.prog W r b0 22 v) (hd:DataW.Trod enc Tryz.prog W base sp held 22 v d p) :
  ∃ b,(InC .u8 W v b/\Src W v (vs .u8 b))/\Bytes b/\b.length<=maxLen:=by
 obtain ⟨ad,len,cap,rfl⟩:=okWide_slice Tryz.underlying22 hok;obtain ⟨fuel,hf⟩:=hd;rcases open_ints Tryz.underlying22 Tryz.underlying5 (by kernel_rfl) hf with ⟨hcs,_⟩|⟨x,l,c,zs,hcs,_,hl,hm,hz,_,hcell,hwz⟩
 ·simp [Value.cells] at hcs;obtain ⟨rfl,rfl,rfl⟩:=hcs;exact ⟨[],⟨⟨none,0,rfl,by simp,fun i hi=>absurd hi (by simp)⟩,.inl ⟨rfl,rfl⟩⟩,fun x hx=>absurd hx (by simp),by simp⟩
 ·simp [Value.cells] at hcs;obtain ⟨rfl,rfl,rfl⟩:=hcs;have hlz:len<=zs.length:=by rw [hz];split<;>omega
  have ht:(zs.take len).length=len:=by rw [List.length_take];omega
  have hc:∀ i,i < len->W.cell? (x.add i)=some (.int .u8 (gi (zs.take len) i)):=fun i hi=>by
   rw [hcell i (by omega)];simp [gi,List.getD_eq_getElem?_getD,hi]
  refine ⟨zs.take len,⟨⟨some x,cap,by rw [ht],by omega,fun i hi=>⟨x,rfl,hc i (by omega)⟩⟩,.inr ⟨x,cap,by rw [Ai,ht],fun j u hu=>?_⟩⟩,fun y hy=>byte_of (hwz y (List.mem_of_mem_take hy)),by omega⟩;obtain ⟨hj,he⟩:=List.getElem?_eq_some_iff.1 hu;rw [Ai,ht] at hj;rw [hc j hj,<- hu,Fg .u8 _ j (by omega)]
theorem A88 (v:Value) (l:I_) (room cut:Int) (w:World) (hv:In .u8 w v l) (h:600 < l.length\/room < 1\/400000 < room\/cut < 1\/1000 < cut):Calls Tryz.prog 3 #[v,.int .i64 room,.int .i64 cut] w (RB w (.bool true)):=by
 obtain ⟨ad,cp,rfl,_⟩:=hv;have hn:∃ n:Nat,l.length=n:=⟨_,rfl⟩;obtain ⟨n,hn⟩:=hn;rw [hn] at h ⊢;clear hn;have h:600 < n\/(¬ 600 < n/\(room < 1\/(¬ room < 1/\(400000 < room\/(¬ 400000 < room/\(cut < 1\/(¬ cut < 1/\1000 < cut))))))):=by omega
 rcases h with p1|⟨p1,p2|⟨p2,p3|⟨p3,p4|⟨p4,p5⟩⟩⟩⟩
 all_goals
  (first|(have q1:decide ((600:Int) < n)=true:=d_t)|(have q1:decide ((600:Int) < n)=false:=d_f))
  (try first|(have q2:=decide_eq_true p2)|(have q2:=decide_eq_false p2))
  (try first|(have q3:=decide_eq_true p3)|(have q3:=decide_eq_false p3))
  (try first|(have q4:=decide_eq_true p4)|(have q4:=decide_eq_false p4))
  (try have q5:=decide_eq_true p5)
  go_enter Tryz.func3,Tryz.ntmps3;have hm:=Own.nil w
  go_wp2_with (go_at_call 9;refine (O9 _).mono ?_;rintro e w1 ⟨rfl,hb9⟩;replace hm:=hm.call hb9;clear hb9)
  go_ret;exact xg6
theorem A7T (v:Value) (l:I_) {w:World} (hv:InC .u8 w v l/\Src w v (vs .u8 l)) (hb:Bytes l) (room:Int) (_h:(Lit.int .i64 room).wf=true) (cut:Int) (_g:(Lit.int .i64 cut).wf=true) (_w:World):Calls Tryz.prog 3 #[v,.int .i64 room,.int .i64 cut] w (RB w (.bool true)):=by
 by_cases h:600 < l.length\/room < 1\/400000 < room\/cut < 1\/1000 < cut
 ·exact A88 v l room cut w (by obtain ⟨a,c,e,_,h⟩:=hv.1;exact ⟨a,c,e,h⟩) h
 ·obtain ⟨r,rfl⟩:=Int.eq_ofNat_of_zero_le (show 0<=room by omega);obtain ⟨c,rfl⟩:=Int.eq_ofNat_of_zero_le (show 0<=cut by omega);exact A8j O9 v l r c w hb hv.1 hv.2 (by omega) (by omega) (by omega) (by omega) (by omega)
theorem topAny_lifted (os:Os) (started:os.Started) (H:Type) (enc:TypeId × Value->H) :
  ReturnsInHanded {} Tryz.checked os 3 .any (Rows.topAnySpec.pre6 enc Tryz.prog Tryz.f3 Rows.topAnyRow.domain false) (Rows.topAnySpec.post enc Tryz.prog Tryz.f3 false true false false):=by
 refine returnsInHanded_of_change (C:=Tryz.checked) Frt.own started (by kernel_rfl) Tryz.func3
  (ChangeSpec.witness6 (enc:=enc) (C:=Tryz.checked) false ⟨#[],#[.slice none 0 0,.int .i64 0,.int .i64 0],[]⟩ 8 (by kernel_rfl) (by kernel_rfl) (by kernel_rfl) (by kernel_rfl)) ?_
 intro W base args ds gs before hval0 hW hcnd _;have hval:∀ (j:Nat) t v,Tryz.f3.params[j]?=some t->args[j]?=some v->Value.okWide Tryz.prog W .any base t v:=hval0;have hW':=hW;obtain ⟨p,q,hA0,hV,rfl,hfz,hnd⟩:=hW;have hA:DataW.TrodAll enc Tryz.prog W 0 (fun _=>true) true Tryz.f3.params.toList args.toList ds p:=hA0;rw [Tryz.params3] at hA hval;obtain ⟨v0,vs0,d0,ds0,p0,q0,hargs,rfl,rfl,h0,r0⟩:=trodAll_cons hA;obtain ⟨v1,vs1,d1,ds1,p1,q1,rfl,rfl,rfl,h1,r1⟩:=trodAll_cons r0;obtain ⟨v2,vs2,d2,ds2,p2,q2,rfl,rfl,rfl,h2,r2⟩:=trodAll_cons r1;obtain ⟨rfl,rfl,rfl⟩:=trodAll_nil r2;obtain rfl:args=#[v0,v1,v2]:=by cases args;simp_all
 obtain ⟨rfl,rfl⟩:=trodVars_none hV;have k0:=h0;have lt0:∀ x ∈ p0,x.block < W.heap.size:=by obtain ⟨m,hm⟩:=k0;exact DataW.trod_lt m _ _ _ hm
 obtain ⟨b0,hv0,hb0,hn0⟩:=bZ (hval 0 22 v0 rfl rfl) h0;obtain ⟨a1,rfl,rfl,rfl,w1⟩:=open_int Tryz.underlying3 (hval 1 3 v1 rfl rfl) h1;obtain ⟨a2,rfl,rfl,rfl,w2⟩:=open_int Tryz.underlying3 (hval 2 3 v2 rfl rfl) h2;clear hA0 hval0;refine (A7T v0 b0 hv0 hb0 a1 w1 a2 w2 W).mono fun e W' ⟨he,bel⟩=>?_;subst he;exact ⟨_,rfl,_,_,_,[],_,[],hW',trodAll_mk1 (shut_bool Tryz.underlying4 _),(trodAll_cons_mk (Below.trod Frt.laidOut (by kernel_rfl) (of_decide_eq_true (by kernel_rfl)) k0 bel lt0) (trodAll_cons_mk (shut_int Tryz.underlying3 w1) (trodAll_cons_mk (shut_int Tryz.underlying3 w2) trodAll_mk0))),rfl,bel.frame _,fun h=>by cases h⟩
theorem topAny_over:Rows.topAnyRow.holds Tryz.pinned (OpenSpec.ofChange Rows.topAnySpec) :=
 OpenClaim.holds_of_wide 3 Tryz.f3 rfl rfl rfl rfl rfl rfl rfl ⟨rfl,rfl,rfl,rfl,rfl⟩ rfl rfl rfl rfl rfl (by kernel_rfl) Tryz.func3 (by kernel_rfl)
  (of_decide_eq_true (by kernel_rfl)) (by unfold Func.isWrapper;first|(rw [if_pos (by decide +kernel)];kernel_rfl)|(rw [if_neg (by decide +kernel)];exact ⟨rfl,rfl⟩))
  (fun os started H enc _=>topAny_lifted os started H enc)
theorem topAny_proved:Rows.TopAnySaid:=topAny_over
end Go.Proofs.YtkpbhdhkdonghaaGreat
