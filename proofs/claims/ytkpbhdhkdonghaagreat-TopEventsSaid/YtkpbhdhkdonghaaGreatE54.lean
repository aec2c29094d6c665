/-
  The statement: the walk put under the given row.
-/
import Derived.Test.YtkpbhdhkdonghaaGreatE10
import Derived.Test.YtkpbhdhkdonghaaGreatE52
import Derived.Test.YtkpbhdhkdonghaaGreatE53
set_option linter.all false
namespace Go.Proofs.YtkpbhdhkdonghaaGreat
set_option maxRecDepth 100000
open Go Go.RowKit Go.ChangeShapes Go.WideShapes Go.ChangeAt
set_option linter.unusedVariables false
theorem bZ {H:Type} {enc:TypeId × Value->H} {W:World} {base:Nat} {sp:Nat->Bool} {held:Bool} {v:Value} {d:DataW H} {p:List MemPlace} {r:Reach} {b0:Nat} (hok:Value.okWide Tryz.prog W r b0 22 v) (hd:DataW.Trod enc Tryz.prog W base sp held 22 v d p) :
  ∃ b,(InC .u8 W v b/\Src W v (vs .u8 b))/\Bytes b/\b.length<=maxLen:=by
 obtain ⟨ad,len,cap,rfl⟩:=okWide_slice Tryz.underlying22 hok
 obtain ⟨fuel,hf⟩:=hd
 rcases open_ints Tryz.underlying22 Tryz.underlying5 (by kernel_rfl) hf with ⟨hcs,_⟩|⟨x,l,c,zs,hcs,_,hl,hm,hz,_,hcell,hwz⟩
 ·simp [Value.cells] at hcs
  obtain ⟨rfl,rfl,rfl⟩:=hcs
  exact ⟨[],⟨⟨none,0,rfl,by simp,fun i hi=>absurd hi (by simp)⟩,.inl ⟨rfl,rfl⟩⟩,fun x hx=>absurd hx (by simp),by simp⟩
 ·simp [Value.cells] at hcs
  obtain ⟨rfl,rfl,rfl⟩:=hcs
  have hlz:len<=zs.length:=by rw [hz];split<;>omega
  have ht:(zs.take len).length=len:=by rw [List.length_take];omega
  have hc:∀ i,i < len->W.cell? (x.add i)=some (.int .u8 (gi (zs.take len) i)):=fun i hi=>by
   rw [hcell i (by omega)]
   simp [gi,List.getD_eq_getElem?_getD,hi]
  refine ⟨zs.take len,⟨⟨some x,cap,by rw [ht],by omega,fun i hi=>⟨x,rfl,hc i (by omega)⟩⟩,.inr ⟨x,cap,by rw [Ai,ht],fun j u hu=>?_⟩⟩,fun y hy=>byte_of (hwz y (List.mem_of_mem_take hy)),by omega⟩
  obtain ⟨hj,he⟩:=List.getElem?_eq_some_iff.1 hu
  rw [Ai,ht] at hj
  rw [hc j hj,<- hu,Fg .u8 _ j (by omega)]
theorem qQ (v:Value) (l:List Int) {w:World} (hv:InC .u8 w v l/\Src w v (vs .u8 l)) (hb:Bytes l) (_w:World):Calls Tryz.prog 8 #[v] w (RB w (.bool true)):=by
 by_cases p1:600 < l.length
 ·exact zx v l w hv.1 p1
 ·exact A1K v l w hv.1 hv.2 hb (by omega)
theorem topEvents_lifted (os:Os) (started:os.Started) (H:Type) (enc:TypeId × Value->H) :
  ReturnsInHanded {} Tryz.checked os 8 .any (Rows.topEventsSpec.pre6 enc Tryz.prog Tryz.f8 Rows.topEventsRow.domain false) (Rows.topEventsSpec.post enc Tryz.prog Tryz.f8 false true false false):=by
 refine returnsInHanded_of_change (C:=Tryz.checked) Frt.own started (by kernel_rfl) Tryz.func8
  (ChangeSpec.witness6 (enc:=enc) (C:=Tryz.checked) false ⟨#[],#[.slice none 0 0],[]⟩ 8 (by kernel_rfl) (by kernel_rfl) (by kernel_rfl) (by kernel_rfl)) ?_
 intro W base args ds gs before hval0 hW hcnd _
 have hval:∀ (j:Nat) t v,Tryz.f8.params[j]?=some t->args[j]?=some v->Value.okWide Tryz.prog W .any base t v:=hval0
 have hW':=hW
 obtain ⟨p,q,hA0,hV,rfl,hfz,hnd⟩:=hW
 have hA:DataW.TrodAll enc Tryz.prog W 0 (fun _=>true) true Tryz.f8.params.toList args.toList ds p:=hA0
 rw [Tryz.params8] at hA hval
 obtain ⟨v0,vs0,d0,ds0,p0,q0,hargs,rfl,rfl,h0,r0⟩:=trodAll_cons hA
 obtain ⟨rfl,rfl,rfl⟩:=trodAll_nil r0
 obtain rfl:args=#[v0]:=by cases args;simp_all
 obtain ⟨rfl,rfl⟩:=trodVars_none hV
 have k0:=h0
 have lt0:∀ x ∈ p0,x.block < W.heap.size:=by obtain ⟨m,hm⟩:=k0;exact DataW.trod_lt m _ _ _ hm
 obtain ⟨b0,hv0,hb0,hn0⟩:=bZ (hval 0 22 v0 rfl rfl) h0
 clear hA0 hval0
 refine (qQ v0 b0 hv0 hb0 W).mono fun e W' ⟨he,bel⟩=>?_
 subst he
 exact ⟨_,rfl,_,_,_,[],_,[],hW',trodAll_mk1 (shut_bool Tryz.underlying4 _),(trodAll_cons_mk (Below.trod Frt.laidOut (by kernel_rfl) (of_decide_eq_true (by kernel_rfl)) k0 bel lt0) trodAll_mk0),rfl,bel.frame _,fun h=>by cases h⟩
theorem topEvents_over:Rows.topEventsRow.holds Tryz.pinned (OpenSpec.ofChange Rows.topEventsSpec) :=
 OpenClaim.holds_of_wide 8 Tryz.f8 rfl rfl rfl rfl rfl rfl rfl ⟨rfl,rfl,rfl,rfl,rfl⟩ rfl rfl rfl rfl rfl (by kernel_rfl) Tryz.func8 (by kernel_rfl)
  (of_decide_eq_true (by kernel_rfl)) (by unfold Func.isWrapper;first|(rw [if_pos (by decide +kernel)];kernel_rfl)|(rw [if_neg (by decide +kernel)];exact ⟨rfl,rfl⟩))
  (fun os started H enc _=>topEvents_lifted os started H enc)
theorem topEvents_proved:Rows.TopEventsSaid:=topEvents_over
end Go.Proofs.YtkpbhdhkdonghaaGreat
