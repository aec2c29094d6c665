/- Part 10 of the proof. -/
import Derived.RangeFuncNested
import Derived.RangeFuncBound
import Derived.WalkKit
set_option linter.all false
namespace Go.Proofs.YtkpbhdhkdonghaaGreat
open Go Go.RowKit
section
variable{F:Fence}{n:Nat}{P:Program}
def Xs(B Bn:Nat)(I:List Int->World->Prop)(xs:List Int)(W:World):Exit->Act->World->Prop
|.normal,_,W'=>KeepsFrom B W W'/\W'.heap[Bn]?=W.heap[Bn]?/\I xs W'
|_,_,_=>False
def Adx{g:Operand}{ps:Array Tmp}{assign body:Code}{Q:Exit->Act->World->Prop}{a:Act}{w:World}(hro:F.round=none)(h1:1<=n){gf:Nat}{lb:Array Value}(hg:a.eval g=.func (.func gf) #[] lb)(hFg:F.fn gf)
  (eg:∀args w,(callFunc gf args).run P w=.ok (.enter gf args) w)(hps:ps.size=1)(Bn:Nat)(hBn:Bn<w.heap.size)(xs:List Int)
  (hseq:∀(l:Nat)(J:List Int->World->Prop)(W:World),W.heap[Bn]?=w.heap[Bn]?->(∀pre A v,J pre A->J pre (A.setCell ⟨Bn,0,none⟩ v))->
   (∀pre x W1,J pre W1->pre.length<xs.length->YieldAt F (n-1-1) P l #[.int .i64 x] W1 λe W'=>e=.returned (.bool true)/\J (pre++[x]) W'/\W'.heap[Bn]?=W1.heap[Bn]?)->
   J [] W->CallsIn F (n-1) P gf (#[.func (.yield l) #[] #[]]++lb) W λe W'=>(∃v,e=.returned v)/\J xs W')
  (I:List Int->World->Prop)(hI:OwnFrom w.heap.size I)(hIs:∀pre A v,I pre A->I pre (A.setCell ⟨Bn,0,none⟩ v))(h0:I [] w)(a₁:Int->Act)
  (hassign:∀(l:Nat)(x:Int)(W:World)(K:Act->World->Prop),K (a₁ x) W->
   assign.wpIn (F.inRound l) (n-1-1) P (Exit.then K (λ_ _ _=>False)) {tmps:=(ps.zip #[Value.int .i64 x]).foldl (λt(p,v)=>t.setIfInBounds p v) a.tmps,defers:=[]} W)
  (hbody:∀(l:Nat)(pre:List Int)(x:Int)(W:World),I pre W->pre.length<xs.length->body.wpIn (F.inRound l) (n-1-1) P (Xs w.heap.size Bn I (pre++[x]) W) (a₁ x) W)
  (hdone:∀(D:Nat)(W:World),w.heap.size<=D->I xs W->W.heap[D]?=some (.deferred (some []))->Q .normal {a with defers:={target:=.collected D,args:=#[]}::a.defers} W):
  (Code.rangeFunc g ps assign body).wpIn F n P Q a w:=by
 refine wpIn_rangeFunc ?_;intro fn hfn;rw[hro]
 let L:Nat:=w.heap.size+1
 let rec':LoopState->Option Code->Loop:=λst pe=>{state:=st,pending:=pe,fn,tmps:=a.tmps,params:=ps,assign,body,defers:=w.heap.size}
 let R:World->Prop:=λW=>W.heap[L]?=some (.loop (rec' .ready none))/\W.heap[w.heap.size]?=some (.deferred (some []))
 let W1:World:=(w.alloc (.deferred (some []))).alloc (.loop (rec' .ready none))
 have hR1:R W1:=by
  refine⟨?_,(Below.heap_alloc _ _ _ (by simp)).trans (World.alloc_heap_new w _)⟩;have:=World.alloc_heap_new (w.alloc (.deferred (some []))) (.loop (rec' .ready none));rwa[World.size_alloc]at this
 have hI1:I [] W1:=hI.alloc _ (hI.alloc _ h0);have hB1:W1.heap[Bn]?=w.heap[Bn]?:=(Below.heap_alloc _ _ _ (by simp;omega)).trans (Below.heap_alloc _ _ _ hBn);refine⟨L,[{target:=.collected w.heap.size,args:=#[]}],W1,{target:=.fn (.func gf) lb,args:=#[.func (.yield L) #[] #[]]},W1,gf,#[.func (.yield L) #[] #[]]++lb,W1,run_enterLoop_outer _ _ _ _ _,?_,?_,?_,λ_=>h1,?_⟩
 .simp only[resolve,hg];simp[go_sem]
 .intro f' hf';simp[Target.leads]at hf';subst hf';exact hFg
 .simp[invoke,go_sem,eg]
 have hset:∀(A:World)(v:Value)(k:Nat),Bn<k->(A.setCell ⟨Bn,0,none⟩ v).heap[k]?=A.heap[k]?:=λA v k hk=>Below.heap_setCell A _ v k (by show k≠Bn;omega);refine(hseq L (λpre W=>I pre W/\R W) W1 hB1 (λpre A v h=>⟨hIs pre A v h.1,(hset A v _ (by omega)).trans h.2.1,(hset A v _ hBn).trans h.2.2⟩) ?_ ⟨hI1,hR1⟩).mono ?_
 .rintro pre x W⟨hi,hl,hk⟩hlen;have hlt:L<W.heap.size:=(Array.getElem?_eq_some_iff.1 hl).1;have hy:=run_yield (P:=P) (args:=#[Value.int .i64 x]) hl (by show _=ps.size;rw[hps];rfl);refine⟨fn,_,assign,body,hy,roundIn_of_wpIn hfn (hassign _ x W _ ⟨_,run_beginRound hl rfl,?_⟩)⟩
  let W2:World:=W.putObj L (.loop {rec' .ready none with state:=.busy})
  have hl2:W2.heap[L]?=some (.loop {rec' .ready none with state:=.busy}):=World.putObj_heap_same hlt;have hk2:W2.heap[w.heap.size]?=some (.deferred (some [])):=(World.putObj_heap_other (by omega)).trans hk;have hb2:W2.heap[Bn]?=W.heap[Bn]?:=World.putObj_heap_other (by omega);refine wpIn_mono (hbody _ pre x W2 (hI.putObj _ hi (by omega) hl rfl) hlen) ?_;rintro e a3 W3 hp;cases e with
 |normal=>
   obtain⟨hk3,hb3,hi3⟩:=hp;have hl3:=hk3.same L _ (by omega) hl2 rfl;refine⟨_,_,run_endRound (P:=P) none hl3,rfl,⟨hI.putObj _ hi3 (by omega) hl3 rfl,World.putObj_heap_same (Array.getElem?_eq_some_iff.1 hl3).1,(World.putObj_heap_other (by omega)).trans (hk3.same _ _ (Nat.le_refl _) hk2 rfl)⟩,?_⟩;exact((World.putObj_heap_other (by omega)).trans hb3).trans hb2
 |ret=>exact hp.elim
 |exit id=>exact hp.elim
 |goto t=>exact hp.elim
 |panic ch=>exact hp.elim
 |outgrown=>exact hp.elim
 .rintro e W2⟨⟨v,rfl⟩,hi,hl,hk⟩;exact⟨none,_,run_endLoop (P:=P) hl (by simp[rec']),hdone _ _ (Nat.le_refl _) (hI.putObj _ hi (by omega) hl rfl) ((World.putObj_heap_other (by omega)).trans hk)⟩
end
end Go.Proofs.YtkpbhdhkdonghaaGreat
