/-
  Part 10 of the proof.
-/
import Derived.Lib.MakeNoZero
import Derived.Deep.CutRange
import Derived.Test.YtkpbhdhkdonghaaGreatA09
set_option linter.all false
set_option maxHeartbeats 4000000
set_option maxRecDepth 100000
namespace Go.Proofs.YtkpbhdhkdonghaaGreat
open Go Tryz Go.RowKit
variable {a:Act} {A:Addr} {ops:O_} {cs:A_} {Q:Exit->P_} {q1 q2:IntKind} {l:I_} {rest:Q_} {ss:List Sl} {xs:L_} {bp bytes c dCap dLen g h m n off sCap sLen:Nat} {o:Oper} {u x y:Operand} {ad:Option Addr} {P:Program} {rs:Rws} {e elem t t':TypeId} {i:TypeInfo} {z:Value} {w w' w0:World} {S:World->Prop}
theorem SG (q:Nat) (hq:q < 2 ^ 32):bits .and .u64 (q:Int) 4294967295=(q:Int):=by
 have h1:(BitVec.ofInt 64 (q:Int)).toNat=q:=by
  exact xet
 have h2:(BitVec.ofInt 64 (4294967295:Int)).toNat=4294967295:=rfl;show IntKind.u64.wrap ((BitVec.ofInt 64 (q:Int) &&& BitVec.ofInt 64 (4294967295:Int)).toNat:Int)=_
 have h3:q &&& 4294967295=q:=by
  have:=Nat.and_two_pow_sub_one_eq_mod q 32;rw [show (4294967295:Nat)=2 ^ 32 - 1 from rfl,this,Nat.mod_eq_of_lt hq]
 rw [BitVec.toNat_and,h1,h2,h3];exact IntWalk.u64_in _ (by omega)
theorem mG (k:Nat) (hk:k < 2 ^ 32) (w:World):Calls prog 291 #[.int .u64 1,.int .u64 k] w fun e w'=>e=.returned (.tuple #[.int .u64 0,.int .u64 k])/\Below w.heap.size w w':=by
 have m1:bits .and .u64 1 4294967295=1:=SG 1 (by omega);have m2:=SG k hk;have m3:bits .and .u64 0 4294967295=0:=SG 0 (by omega);have v1:IntKind.u64.wrap (k:Int)=k:=IntWalk.u64_in _ (by omega);have v0:IntKind.u64.wrap (0:Int)=0:=IntWalk.u64_in _ (by omega);have d1:(k:Int) / 4294967296=0:=by omega
 have hkk:(k:Int) < 4294967296:=by omega
 go_enter func291,ntmps291;exact xh6
theorem Yu (k:Nat) (hk:k < 2 ^ 32) (w:World):Calls prog 278 #[.int .u64 1,.int .u64 k] w fun e w'=>e=.returned (.tuple #[.int .u64 0,.int .u64 k])/\Below w.heap.size w w':=by
 go_enter func278,ntmps278;have hm:=Own.nil w
 go_wp2_with (first
 |(go_at_call 291;have _t:=hm;refine (mG k hk _).mono ?_;rintro e w1 ⟨rfl,hb1⟩;have hm1:=hm.call hb1;clear hm))
 go_ret2
 exact xhc
theorem Jl 
  (ho:o.op=.call { callee:=.builtin .copy,args:=#[x,y],argTypes:=#[t,t'] }) (hu:P.underlying t=some (.slice elem)) (hs:(P.info? elem).map (·.size)=some 1)
  (hx:a.eval x=.slice (some ⟨g,off,none⟩) dLen dCap) (hy:a.eval y=.slice (some A) sLen sCap)
  (hg:AA w g cs) (hn:xs.length=Nat.min sLen dLen) (hc:∀ j v,xs[j]?=some v->w.cell? (A.add j)=some v) (hfit:off+xs.length<=cs.size) (h1:∀ v ∈ xs,v.oneCell'=true) :
  (execOp a.eval o).run P w=.ok (.value (.int .i64 xs.length)) (w.setRow g (splice cs off xs.toArray)):=by
 obtain ⟨tt,hg⟩:=hg;have hrun:=run_copy_row P w t t' o.type elem g off dLen dCap A sLen sCap cs tt xs hu hs hg hn hc hfit h1;have e:(cs.toList.take off++xs++cs.toList.drop (off+xs.length)).toArray=splice cs off xs.toArray:=by simp [splice]
 rw [e] at hrun;unfold execOp;simp only [ho,resolve,invoke,builtin,s_b,s_p,r_o,l_y,List.map_cons,List.map_nil,hx,hy,hrun,goInt]
theorem GH {v:Value} (h:cs.toList.take bp=List.replicate bp v):(splice cs bp (List.replicate m v).toArray).toList.take (bp+m)=List.replicate (bp+m) v:=by
 have h1:(splice cs bp (List.replicate m v).toArray).toList=List.replicate (bp+m) v++cs.toList.drop (bp+m):=by
  simp only [splice,h,List.replicate_append_replicate,List.size_toArray,l_r]
 rw [h1,List.take_left' (by simp)]
theorem GK {v:Value} (h:bp+m<=cs.size):(splice cs bp (List.replicate m v).toArray).size=cs.size:=by
 simp [splice];omega
theorem Tz {j:Nat} {v:Value} (h:cs.toList.take bp=List.replicate bp v) (hj:j < bp):cs[j]?=some v:=by
 have h2:(cs.toList.take bp)[j]?=some v:=by rw [h];simp [hj]
 rw [List.getElem?_take,if_pos hj,a_g] at h2;exact h2
def FI (w:World) (l:I_) (x:Ending) (w':World):Prop:=(∃ g cells,x=.returned (.slice (some ⟨g,0,none⟩) l.length l.length)/\AA w' g cells/\w.heap.size<=g/\cells.toList.take l.length=vs .u8 l)/\Below w.heap.size w w'
theorem Yc (A:Addr) (cp:Nat) (w:World):Calls prog 251 #[.slice (some A) 1 cp,.int .i64 0] w (FI w []):=by
 go_enter func251,ntmps251;have hm:=Own.nil w
 go_wp2_with fail
 go_ret;have hm1:=hm.alloc #[] 5;exact ⟨⟨_,_,rfl,hm1.row 0 rfl,Nat.le_refl _,rfl⟩,hm1.below⟩
theorem wH {ts:Array TypeId} (ho:o.op=.call { callee:=.value (.func 279),args:=#[x],argTypes:=ts }) (hx:a.eval x=.int .i64 n) (hn:n<=281474976710656) :
  ∃ cs:A_,(execOp a.eval o).run prog w=.ok (.value (.slice (some ⟨w.heap.size,0,none⟩) n cs.size)) (w.drew.drew.alloc (.cells cs 5))/\n<=cs.size:=by
 obtain ⟨cs,hr,h1,_⟩:=Lib.run_makeNoZero (P:=prog) w #[3] 22 5 underlying22 n hn;refine ⟨cs,?_,h1⟩;have hf:a.eval (Operand.func 279)=.func (.func 279) #[] #[]:=rfl;unfold execOp;simp only [ho,resolve,invoke,s_b,l_y,List.map_cons,List.map_nil,hx,hf];simp [go_sem,run_callFunc_extern func279 (by kernel_rfl) (by kernel_rfl) (by kernel_rfl) (e:=Extern.BytealgMakeNoZero.makeNoZero #[3] #[22]) (by kernel_rfl),hr]
theorem su (he:Gv P t e i z bytes) (h2:h<=c) :
  (Instr.sliceAt t (.slice ad n c) none (some (.int q1 h)) (some (.int q2 h))).run P w=.ok (.slice (D8 ad h 0) h h) w:=by
 have hh0:(0:Int)<=h:=by omega
 have hhc:(h:Int)<=c:=by omega
 unfold Instr.sliceAt;rw [s_b,r_u he.under];simp only [r_o];unfold Instr.slice;rw [s_b,r_u he.under];simp only [r_o];simp [Instr.sliceBounds,Instr.sliceBound,asIntOf,sizeOf,typeInfo,he.info,D8,h2,Result.andThen]
theorem VI (ho:o.op=.slice t x none (some y) (some u)) (he:Gv P t e i z bytes) (hx:a.eval x=.slice ad n c) (hy:a.eval y=.int .i64 h) (hu:a.eval u=.int .i64 h) (h2:h<=c) :
  (execOp a.eval o).run P w=.ok (.value (.slice (D8 ad h 0) h h)) w:=by
 unfold execOp;simp only [ho,hx,hy,hu,s_b,Option.map_none,Option.map_some,su he h2,r_o,s_p]
theorem Ig (g h:Nat):D8 (some ⟨g,0,none⟩) h 0=some ⟨g,0,none⟩:=by
 unfold D8;split
 ·rfl
 ·simp [Addr.add_lit]
theorem Le (g h i:Nat) (hi:i < h):D8 (some ⟨g,0,none⟩) h i=some ⟨g,i,none⟩:=by
 unfold D8;rw [if_neg (by omega)];simp [Addr.add_lit]
theorem Iz (h:AA w g cs) (k:Nat) {v:Value} (e:cs[k]?=some v):w.cell? ((⟨g,0,none⟩:Addr).add k)=some v:=by
 rw [Addr.add_lit,Nat.zero_add,h.cell,e]
theorem RS {i:Nat} {r:List (Nat × Bool)} {v:Value} (ho:ops.toList[i]?=some o) (hw:Region.wanted o (yielded ops a.tmps)=true)
  (hrun:(execOp a.eval o).run P w=.ok (.value v) w') (hS:S w') (h:Ej P ops Q r S (a.put o.dst v) w'):Ej P ops Q ((i,false)::r) S a w :=
 A07 (by rw [<- a_g];exact ho) hw hrun hS h
theorem DU {v:Value} (hg:Region.wanted o (yielded ops a.tmps)=true)
  (hrun:(execOp a.eval o).run P w=.ok (.value v) w) (h:wpList P ops Q rest (a.put o.dst v) w):wpList P ops Q (o::rest) a w:=A8 hg hrun h
theorem Rf (hm:Own w0 w rs ss) (hg:Region.wanted o (yielded ops a.tmps)=true) {ts:Array TypeId} (ho:o.op=.call { callee:=.value (.func 279),args:=#[x],argTypes:=ts }) (hx:a.eval x=.int .i64 n) (hn:n<=281474976710656)
  (h:∀ w' g cs,n<=cs.size->Own w0 w' ((g,cs)::rs) ss->wpList prog ops Q rest (a.put o.dst (.slice (some ⟨g,0,none⟩) n cs.size)) w'):wpList prog ops Q (o::rest) a w:=by
 obtain ⟨cs,hr,hN⟩:=wH ho hx hn;exact A8 hg hr (h _ _ cs hN ((hm.call ((Below.refl w.heap.size w).drew.drew)).alloc cs 5))
theorem Own.QW (h:Own w0 w rs ss) (hb:Below w.heap.size w w') {cells:A_} (hr:AA w' g cells) (hg:w.heap.size<=g):Own w0 w' ((g,cells)::rs) ss:=by
 have h':=h.call hb;refine ⟨⟨h'.mem.below,?_,?_,?_⟩,h'.sl,?_⟩
 ·intro p hp;rcases List.mem_cons.1 hp with rfl|hp
  ·exact Nat.le_trans h.below.size hg
  ·exact h'.mem.own p hp
 ·intro p hp;rcases List.mem_cons.1 hp with rfl|hp
  ·exact hr
  ·exact h'.mem.rows p hp
 ·rw [List.map_cons,List.nodup_cons];refine ⟨fun hm=>?_,h'.mem.apart⟩;exact xcp
 ·rw [List.map_cons,List.nodup_append];obtain ⟨h1,h2,h3⟩:=List.nodup_append.1 h.apart;refine ⟨h1,?_,?_⟩
  ·rw [List.nodup_cons];refine ⟨fun hm=>?_,h2⟩;exact xcp
  ·intro a ha b hb2;rcases List.mem_cons.1 hb2 with rfl|hb2
   ·have:=(h.rJ a ha).2;omega
   ·exact h3 a ha b hb2
theorem sG {cells:A_} (h:AA w g cells) (ht:cells.toList.take l.length=vs .u8 l):∀ j u,(vs .u8 l)[j]?=some u->w.cell? ((⟨g,0,none⟩:Addr).add j)=some u:=by
 intro j u hj;rw [<- ht,List.getElem?_take] at hj;split at hj
 ·exact Iz h j (by rw [<- a_g];exact hj)
 ·cases hj
theorem SY {α:Type} {j:Nat} {v u:α} (h:(List.replicate n v)[j]?=some u):u=v/\j < n:=by
 obtain ⟨h1,h2⟩:=List.getElem?_eq_some_iff.1 h;rw [l_r] at h1;exact ⟨by rw [<- h2];simp,h1⟩
theorem WS (c:Int) (A:Addr) (cp k:Nat) (w:World) (hk0:0 < k) (hk:k<=65536) (hA:w.cell? A=some (.int .u8 c)) (hs:¬ 8192 < k):Calls prog 251 #[.slice (some A) 1 cp,.int .i64 k] w (FI w (List.replicate k c)):=by
 have n1:((k:Int) == 0)=false:=by simp;omega
 have n2:¬ (k:Int)=0:=by omega
 have n3:¬ (k:Int) < 0:=by omega
 have v1:IntKind.u64.wrap (k:Int)=k:=IntWalk.u64_in _ (by omega);have v2:IntKind.u64.wrap (1:Int)=1:=IntWalk.u64_in _ (by omega);have v3:IntKind.i64.wrap (k:Int)=k:=i_6;have n4:decide ((9223372036854775807:Int) < k)=false:=d_f;have b1:¬ (8192:Int) < k:=by omega
 have b2:decide ((8192:Int) < k)=false:=decide_eq_false b1;clear hs;have HA:=h_ hA;clear hA;obtain ⟨i5,hE⟩:=Md;have HE:=h_ hE;clear hE;go_enter func251,ntmps251;have hm:=Own.nil w
 go_upto_region 16 with (first
 |(go_at_call 278;have _t:=hm;refine (Yu k (by omega) _).mono ?_;rintro e w1 ⟨rfl,hb1⟩;have hm1:=hm.call hb1;clear hm))
 apply wp_region_lit;refine DU rfl (by go_simp;rfl) ?_;simp only [Act.put,s3];refine Rf hm1 rfl rfl (n:=k) rfl (by omega) ?_;intro w2 g cs hN hm2;clear hm1
 try simp only [Act.put,s3]
 refine DU rfl (by go_simp;rfl) ?_;simp only [Act.put,s3];refine DU rfl (by go_simp;rfl) ?_;simp only [Act.put,s3];refine A8 rfl (VI rfl HE.out rfl rfl rfl hN) ?_;rw [Ig];simp only [Act.put,s3];refine DU rfl (by go_simp;rfl) ?_;simp only [Act.put,s3];refine wpList_nil ?_;go_simp
 have hcp:∀ (cells:A_) (W:World),Own w W [(g,cells)] []->∀ j u,[Value.int .u8 c][j]?=some u->W.cell? (A.add j)=some u:=by
  intro cells W hW j u hj
  match j with
 |0 =>
   exact xd4
 |j+1=>simp at hj
 go_wp2_with (first
 |(refine A8 rfl (Jl (xs:=[.int .u8 c]) rfl underlying22 sz5 rfl rfl (hm2.row 0 rfl) (by simp [Nat.min_def];omega) (hcp cs _ hm2) (by simp only [List.length_cons,List.length_nil];omega) (Yl _ rfl)) ?_;have hm3:=hm2.setRow 0 (splice cs 0 [Value.int .u8 c].toArray) rfl;simp only [List.set] at hm3;clear hm2))
 have hsz:=GK (cs:=cs) (bp:=0) (m:=1) (v:=.int .u8 c) (by omega);have htk:=GH (cs:=cs) (bp:=0) (m:=1) (v:=.int .u8 c) rfl
 go_loopw [10] (fun u wr=>∃ (bp:Nat) (cells:A_),1<=bp/\bp<=k/\u=.int .i64 bp/\k<=cells.size/\Hid (cells.toList.take bp=List.replicate bp (.int .u8 c))/\Own w wr [(g,cells)] []) (fun u _=>k - (intOf u).toNat)
 case atStart=>exact ⟨1,_,by omega,by omega,rfl,by rw [hsz];exact hN,htk,hm3⟩
 case round =>
  obtain ⟨bp,cells,h1,hbk,rfl,hN2,HT,hmr⟩:=hrel;clear hm3 hsz htk;by_cases hlt:bp < k
  ·have q1:¬ (k:Int) < bp:=by omega
   exact xal
  ·exact xct
theorem bK (c:Int) (A:Addr) (cp k:Nat) (w:World) (hk0:0 < k) (hk:k<=65536) (hA:w.cell? A=some (.int .u8 c)) (hs:8192 < k):Calls prog 251 #[.slice (some A) 1 cp,.int .i64 k] w (FI w (List.replicate k c)):=by
 have n1:((k:Int) == 0)=false:=by simp;omega
 have n2:¬ (k:Int)=0:=by omega
 have n3:¬ (k:Int) < 0:=by omega
 have v1:IntKind.u64.wrap (k:Int)=k:=IntWalk.u64_in _ (by omega);have v2:IntKind.u64.wrap (1:Int)=1:=IntWalk.u64_in _ (by omega);have v3:IntKind.i64.wrap (k:Int)=k:=i_6;have n4:decide ((9223372036854775807:Int) < k)=false:=d_f;have b1:(8192:Int) < k:=by omega
 have b2:decide ((8192:Int) < k)=true:=decide_eq_true b1;have HA:=h_ hA;clear hA;obtain ⟨i5,hE⟩:=Md;have HE:=h_ hE;clear hE;go_enter func251,ntmps251;have hm:=Own.nil w
 go_upto_region 16 with (first
 |(go_at_call 278;have _t:=hm;refine (Yu k (by omega) _).mono ?_;rintro e w1 ⟨rfl,hb1⟩;have hm1:=hm.call hb1;clear hm))
 apply wp_region_lit;refine DU rfl (by go_simp;rfl) ?_;simp only [Act.put,s3];refine Rf hm1 rfl rfl (n:=k) rfl (by omega) ?_;intro w2 g cs hN hm2;clear hm1
 try simp only [Act.put,s3]
 refine DU rfl (by go_simp;rfl) ?_;simp only [Act.put,s3];refine DU rfl (by go_simp;rfl) ?_;simp only [Act.put,s3];refine A8 rfl (VI rfl HE.out rfl rfl rfl hN) ?_;rw [Ig];simp only [Act.put,s3];refine DU rfl (by go_simp;rfl) ?_;simp only [Act.put,s3];refine wpList_nil ?_;go_simp
 have hcp:∀ (cells:A_) (W:World),Own w W [(g,cells)] []->∀ j u,[Value.int .u8 c][j]?=some u->W.cell? (A.add j)=some u:=by
  intro cells W hW j u hj
  match j with
 |0 =>
   exact xd4
 |j+1=>simp at hj
 go_wp2_with (first
 |(refine A8 rfl (Jl (xs:=[.int .u8 c]) rfl underlying22 sz5 rfl rfl (hm2.row 0 rfl) (by simp [Nat.min_def];omega) (hcp cs _ hm2) (by simp only [List.length_cons,List.length_nil];omega) (Yl _ rfl)) ?_;have hm3:=hm2.setRow 0 (splice cs 0 [Value.int .u8 c].toArray) rfl;simp only [List.set] at hm3;clear hm2))
 have hsz:=GK (cs:=cs) (bp:=0) (m:=1) (v:=.int .u8 c) (by omega);have htk:=GH (cs:=cs) (bp:=0) (m:=1) (v:=.int .u8 c) rfl
 go_loopw [10] (fun u wr=>∃ (bp:Nat) (cells:A_),1<=bp/\bp<=k/\u=.int .i64 bp/\k<=cells.size/\Hid (cells.toList.take bp=List.replicate bp (.int .u8 c))/\Own w wr [(g,cells)] []) (fun u _=>k - (intOf u).toNat)
 case atStart=>exact ⟨1,_,by omega,by omega,rfl,by rw [hsz];exact hN,htk,hm3⟩
 case round =>
  obtain ⟨bp,cells,h1,hbk,rfl,hN2,HT,hmr⟩:=hrel;clear hm3 hsz htk;by_cases hlt:bp < k
  ·by_cases hb8:8192 < bp
   ·have q1:(8192:Int) < bp:=by omega
    go_wp2_with fail
    obtain ⟨m,hmm⟩:∃ m,m=Nat.min 8192 (k - bp):=⟨_,rfl⟩;have hm0:1<=m/\m<=8192/\m<=k - bp:=by rw [hmm];simp only [Nat.min_def];split<;>omega
    have HMM:=h_ hmm;clear hmm;have hwm:IntKind.i64.wrap ((bp:Int)+(m:Int))=(bp:Int)+m:=i_6;have hS8:Below w.heap.size w { wr with drawn:=wr.drawn+1 }:=(hmr.drawn (wr.drawn+1)).below;refine D7 [(0,true),(1,true),(2,true),(3,true),(4,true),(5,true),(6,true),(7,false),(8,true),(9,true)] (fun W=>Below w.heap.size w W) rfl (by kernel_rfl) rfl (by kernel_rfl) (fun _ _ d _ _ h=>by cases d<;>exact h) hS8 ?_;have hn:=hmr.drawn (wr.drawn+1);clear hS8;generalize ({ wr with drawn:=wr.drawn+1 }:World)=wn at hn ⊢;clear hmr;refine Ah rfl rfl (fun W hW=>by go_simp;rfl) ?_;simp only [Act.put,s3];refine Ah rfl rfl (fun W hW=>by go_simp;rfl) ?_;simp only [Act.put,s3];refine Ah rfl rfl (fun W hW=>by go_simp;rfl) ?_;simp only [Act.put,s3];refine Ah rfl rfl (fun W hW=>A2Y rfl HE.out rfl (.inr ⟨_,rfl⟩) (.inl ⟨rfl,rfl⟩) hbk (Nat.le_refl _)) ?_;rw [Le g k bp hlt]
    simp only [Act.put,s3];refine Ah rfl rfl (fun W hW=>by go_simp;rfl) ?_;simp only [Act.put,s3];refine Ah rfl rfl (fun W hW=>by go_simp;rfl) ?_;simp only [Act.put,s3];refine Ah rfl rfl (fun W hW=>A2Y (l:=0) (h:=8192) rfl HE.out rfl (.inl ⟨rfl,rfl⟩) (.inr ⟨_,rfl⟩) (Nat.zero_le _) (by omega)) ?_;exact xfo
   ·have q1:¬ (8192:Int) < bp:=by omega
    exact xal
  ·exact xct
theorem Rz (c:Int) (v:Value) (k:Nat) (w:World) (hk:k<=65536) (A:Addr) (cp:Nat) (hv:v=.slice (some A) 1 cp) (hA:w.cell? A=some (.int .u8 c)):Calls prog 251 #[v,.int .i64 k] w (FI w (List.replicate k c)):=by
 subst hv;by_cases h0:k=0
 ·subst h0;exact Yc A cp w
 by_cases hs:8192 < k
 ·exact bK c A cp k w (by omega) hk hA hs
 ·exact WS c A cp k w (by omega) hk hA hs
variable {a:Act} {A:Addr} {cs:A_} {bytes c g h l m n p:Nat} {o:Oper} {u x y:Operand} {ad:Option Addr} {P:Program} {e t t':TypeId} {i:TypeInfo} {z:Value} {w:World}
def AR (d:Value) (live peak:Int):A_:=#[d,.int .i64 live,.int .i64 peak]
def SP (at_ len:Int):A_:=#[.int .i64 at_,.int .i64 len]
def rds:Nat->Nat->OT
|_,0=>.done
|i,n+1=>.rd i (rds (i+1) n)
theorem AA.keep (h:AA w g cs):∀ W,Below w.heap.size w W->AA W g cs:=fun W hb=>by
 obtain ⟨t,ht⟩:=h;exact ⟨t,(hb.block g (Array.getElem?_eq_some_iff.1 ht).1).trans ht⟩
theorem SP0 (a n:Int):(SP a n)[0]?=some (.int .i64 a):=rfl
theorem SP1 (a n:Int):(SP a n)[1]?=some (.int .i64 n):=rfl
theorem AR0 (d:Value) (l p:Int):(AR d l p)[0]?=some d:=rfl
theorem AR1 (d:Value) (l p:Int):(AR d l p)[1]?=some (.int .i64 l):=rfl
theorem AR2 (d:Value) (l p:Int):(AR d l p)[2]?=some (.int .i64 p):=rfl
theorem agg50:Aq prog 50 2:=Aq.mk' underlying50 rfl (by kernel_rfl)
theorem yw (a n:Int):∀ v ∈ SP a n,v.oneCell'=true:=fun v hv=>by
 simp only [SP,List.mem_toArray,List.mem_cons,List.not_mem_nil,or_false] at hv;rcases hv with rfl|rfl<;>rfl
theorem vZ (ga:Nat) (d:Value) (live peak a n:Int) (w:World) (hr:AA w ga (AR d live peak)) (h0:0<=a) (h1:0<=n) (h2:a+n<=live) (h3:live<=1048576):Calls prog 64 #[.pointer (some ⟨ga,0,none⟩),.agg (SP a n)] w fun e w'=>(e=.returned (.bool true))/\Below w.heap.size w w':=by
 have q1:decide (0<=a)=true:=decide_eq_true h0;have q2:decide (0<=n)=true:=decide_eq_true h1;have q3:decide (a<=live)=true:=d_t;have q4:decide (n<=live - a)=true:=d_t;have hw:IntKind.i64.wrap (live - a)=live - a:=i_6;clear h0 h1 h2 h3;go_enter func64,ntmps64;have hm:=Own.nil w
 go_wp2_with (first
 |(refine Ar hm rfl rfl rfl ?_;intro w1 g hm1;clear hm))
 have HR:=h_ hr.keep;clear hr;refine IL (rds 0 34) (fun W=>Below w.heap.size w W/\AA W g (SP a n)/\AA W ga (AR d live peak)) rfl (by kernel_rfl) rfl (by kernel_rfl) (fun _ _ d _ _ h=>by cases d<;>exact h) ⟨(hm1.drawn (w1.drawn+1)).below,(hm1.drawn (w1.drawn+1)).row 0 rfl,HR.out _ (hm1.drawn (w1.drawn+1)).below⟩ ?_;have hn:=hm1.drawn (w1.drawn+1);generalize ({ w1 with drawn:=w1.drawn+1 }:World)=wn at hn ⊢;clear hm1 HR;simp only [rds]
 repeat ((first
 |(refine EW rfl rfl (fun W hW=>Aa (off:=0) rfl rfl hW.2.1 BG (SP0 _ _)) ?_)
 |(refine EW rfl rfl (fun W hW=>Aa (off:=1) rfl rfl hW.2.1 BG (SP1 _ _)) ?_)
 |(refine EW rfl rfl (fun W hW=>Aa (off:=1) rfl rfl hW.2.2 BG (AR1 _ _ _)) ?_)
 |(refine EW rfl rfl (fun W hW=>by go_simp;rfl) ?_));(try simp only [Act.put,s3]))
 refine XI ?_;go_simp;go_wp2;go_ret;exact ⟨rfl,hn.below⟩
theorem rZ (he:Gv P t e i z bytes) (h1:l<=h) (h2:h<=m) (h3:m<=c) :
  (Instr.sliceAt t (.slice ad n c) (some (.int .i64 l)) (some (.int .i64 h)) (some (.int .i64 m))).run P w=.ok (.slice (D8 ad m l) (h - l) (m - l)) w:=by
 unfold Instr.sliceAt;rw [s_b,r_u he.under];simp only [r_o];unfold Instr.slice;rw [s_b,r_u he.under];simp only [r_o];simp [Instr.sliceBounds,Instr.sliceBound,asIntOf,sizeOf,typeInfo,he.info,he.size,D8,h1,h2,h3,Result.andThen]
theorem nK {v:Operand} (ho:o.op=.slice t x (some y) (some u) (some v)) (he:Gv P t e i z bytes) (hx:a.eval x=.slice ad n c) (hy:a.eval y=.int .i64 l) (hu:a.eval u=.int .i64 h) (hv:a.eval v=.int .i64 m) (h1:l<=h) (h2:h<=m) (h3:m<=c) :
  (execOp a.eval o).run P w=.ok (.value (.slice (D8 ad m l) (h - l) (m - l))) w:=by
 unfold execOp;simp only [ho,hx,hy,hu,hv,s_b,Option.map_some,rZ he h1 h2 h3,r_o,s_p]
theorem Eo (a n:Int):Aq prog 50 (SP a n).size:=agg50
theorem iJ (ga gd L a n i k:Nat) (live peak:Int) (w:World) (hr:AA w ga (AR (.slice (some ⟨gd,0,none⟩) L L) live peak)) (h1:(a:Int)+n<=live) (h2:live<=L) (h3:L<=1048576) (h4:i+k<=n) (h5:0 < k):Calls prog 162 #[.pointer (some ⟨ga,0,none⟩),.agg (SP a n),.int .i64 i,.int .i64 k] w fun e w'=>(e=.returned (.slice (some ⟨gd,a+i,none⟩) k k))/\Below w.heap.size w w':=by
 have CH:Hid (∀ W,AA W ga (AR (.slice (some ⟨gd,0,none⟩) L L) live peak)->Calls prog 64 #[.pointer (some ⟨ga,0,none⟩),.agg (SP a n)] W fun e w'=>(e=.returned (.bool true))/\Below W.heap.size W w'):=h_ fun W h=>vZ ga _ live peak a n W h (by omega) (by omega) h1 (by omega);have HR:=h_ hr.keep;have q1:decide ((i:Int) < 0)=false:=d_f;have q2:decide ((n:Int) - k < i)=false:=d_f;have w1:IntKind.i64.wrap ((n:Int) - k)=(n:Int) - k:=i_6;have w2:IntKind.i64.wrap ((i:Int)+a)=((a+i:Nat):Int):=by rw [IntWalk.i64_in _ (by omega)];push_cast;omega
 have w3:IntKind.i64.wrap (((a+i:Nat):Int)+k)=((a+i+k:Nat):Int):=by rw [IntWalk.i64_in _ (by omega)];push_cast;omega
 have c1:a+i<=a+i+k:=by omega
 have c2:a+i+k<=L:=by omega
 have HS:Hid (Value.slice (D8 (some ⟨gd,0,none⟩) (a+i+k) (a+i)) (a+i+k - (a+i)) (a+i+k - (a+i))=.slice (some ⟨gd,a+i,none⟩) k k):=h_ (by rw [Le _ _ _ (by omega),show a+i+k - (a+i)=k by omega]);obtain ⟨i5,hE⟩:=Md;have HE:=h_ hE;clear hr h1 h2 h3 h4 h5 hE;generalize a+i=p at *;generalize p+k=e at *;go_enter func162,ntmps162;have hm:=Own.nil w
 go_wp2_with (first
 |(refine Ar hm rfl rfl rfl ?_;intro w1 g hm1;clear hm)
 |(refine Ag rfl rfl rfl (hm1.row 0 rfl) (Eo _ _) ?_)
 |(go_at_call 64;have _t:=hm1;refine (CH.out _ (HR.out _ hm1.below)).mono ?_;rintro x w2 ⟨rfl,hb2⟩;have hm2:=hm1.call hb2;clear hm1)
 |(refine A8 rfl (Aa (off:=1) rfl rfl (hm2.row 0 rfl) BG (SP1 _ _)) ?_)
 |(refine A8 rfl (Aa (off:=0) rfl rfl (hm2.row 0 rfl) BG (SP0 _ _)) ?_)
 |(refine A8 rfl (Aa (off:=0) rfl rfl (HR.out _ hm2.below) iO (AR0 _ _ _)) ?_)
 |(refine A8 rfl (nK rfl HE.out rfl rfl rfl rfl c1 (Nat.le_refl _) c2) ?_))
 go_ret;exact ⟨by rw [<- HS.out];rfl,hm2.below⟩
theorem WL (w:World) (d:Nat) (t e:TypeId) (A:Addr) (n c:Nat) (h:P.underlying t=some (.slice e)):(Op.equalIn (d+1) t (.slice (some A) n c) (.slice none 0 0)).run P w=.ok false w:=by
 simp [Op.equalIn,r_u h]
theorem Qi (w:World) (A:Addr) (n c:Nat):(Op.equal 22 (.slice (some A) n c) (.slice none 0 0)).run prog w=.ok false w:=WL w 9999 22 5 A n c underlying22
theorem TF (ho:o.op=.binOp .eql 22 x y t') (hx:a.eval x=.slice (some A) n c) (hy:a.eval y=.slice none 0 0):(execOp a.eval o).run prog w=.ok (.value (.bool false)) w:=by
 unfold execOp;simp [ho,hx,hy,eqGuard,binOp,Qi,Result.andThen]
theorem Zn (ho:o.op=.indexAddr t x y) (he:Gv P t e i z bytes) (hx:a.eval x=.slice (some ⟨g,p,none⟩) n c) (hy:a.eval y=.int .i64 0) (hk:0 < n) :
  (execOp a.eval o).run P w=.ok (.value (.pointer (some ⟨g,p,none⟩))) w:=by
 have h:=Am (P:=P) (w:=w) ho he hx (k:=0) hy rfl hk;rw [h,Addr.add_lit,Nat.add_zero]
theorem A0G (ga gd a n i:Nat) (l:I_) (live peak:Int) (w:World) (hr:AA w ga (AR (.slice (some ⟨gd,0,none⟩) l.length l.length) live peak)) (hd:AA w gd (B l)) (h1:(a:Int)+n<=live) (h2:live<=l.length) (h3:l.length<=1048576) (h4:i < n):Calls prog 116 #[.pointer (some ⟨ga,0,none⟩),.agg (SP a n),.int .i64 i] w fun e w'=>(e=.returned (.tuple #[.int .u8 (gi l (a+i)),.bool true]))/\Below w.heap.size w w':=by
 have CP:Hid (∀ W,Below w.heap.size w W->Calls prog 162 #[.pointer (some ⟨ga,0,none⟩),.agg (SP a n),.int .i64 i,.int .i64 1] W fun e w'=>(e=.returned (.slice (some ⟨gd,a+i,none⟩) 1 1))/\Below W.heap.size W w'):=h_ fun W h=>iJ ga gd l.length a n i 1 live peak W (hr.keep W h) h1 h2 h3 (by omega) (by omega);have HD:=h_ hd.keep;have hg:(B l)[a+i]?=some (.int .u8 (gi l (a+i))):=Zd l (a+i) (by omega);obtain ⟨i5,hE⟩:=Md;have HE:=h_ hE;clear hr hd h1 h2 h3 h4 hE;generalize a+i=p at *;go_enter func116,ntmps116;have hm:=Own.nil w
 go_wp2_with (first
 |(refine Ar hm rfl rfl rfl ?_;intro w1 g hm1;clear hm)
 |(refine Ag rfl rfl rfl (hm1.row 0 rfl) (Eo _ _) ?_)
 |(go_at_call 162;have _t:=hm1;refine (CP.out _ hm1.below).mono ?_;rintro x w2 ⟨rfl,hb2⟩;have hm2:=hm1.call hb2;clear hm1)
 |(refine A8 rfl (TF rfl rfl rfl) ?_)
 |(refine A8 rfl (Zn rfl HE.out rfl rfl (by decide)) ?_)
 |(refine A8 rfl (Aa (off:=p) rfl rfl (HD.out _ hm2.below) FV hg) ?_))
 go_ret2
 exact xht
def OwnB (w:World) (l:I_) (x:Ending) (w':World):Prop:=(∃ v,x=.returned v/\w'.ownsRow w.heap.size 5 1 v l.length (vs .u8 l))/\Below w.heap.size w w'
theorem Own.uy {w0 w:World} {rs:Rws} {ss:List Sl} (h:Own w0 w rs ss) (cs:A_) (e:TypeId) (hc:cs.size<=maxLen) (hq:e < Ey:=by first|assumption|(simp [Ey];done)):Own w0 (w.alloc (.cells cs e)) rs ((.slice (some ⟨w.heap.size,0,none⟩) cs.size cs.size,e,cs.toList)::ss):=by
 refine h.fG ((Below.refl _ _).alloc (Nat.le_refl _) _) ?_ hq;refine ⟨by simp,.inr ⟨w.heap.size,cs.size,cs,by simp,Nat.le_refl _,heap_alloc_new w _,by simp,hc,by simp,by rw [Nat.mul_one];exact List.take_of_length_le (by simp)⟩⟩
theorem WJ (w:World):(Op.equal 22 (.slice none 0 0) (.slice none 0 0)).run prog w=.ok true w:=by
 have h:∀ (P:Program) (d:Nat),P.underlying 22=some (.slice 5)->(Op.equalIn (d+1) 22 (.slice none 0 0) (.slice none 0 0)).run P w=.ok true w:=fun P d h=>by simp [Op.equalIn,r_u h]
 exact h prog 9999 underlying22
theorem Zo {w:World} {o:Oper} {a:Act} {x y:Operand} {t':TypeId} (ho:o.op=.binOp .eql 22 x y t') (hx:a.eval x=.slice none 0 0) (hy:a.eval y=.slice none 0 0):(execOp a.eval o).run prog w=.ok (.value (.bool true)) w:=by
 unfold execOp;simp [ho,hx,hy,eqGuard,binOp,WJ,Result.andThen]
theorem clone_any (v:Value) (l:I_) (w:World) (hv:Src w v (vs .u8 l)) (hl:l.length<=1048576):Calls prog 99 #[v] w (OwnB w l):=by
 rcases hv with ⟨rfl,h0⟩|⟨A,c,rfl,hc⟩
 ·have hl0:l=[]:=by simpa [vs] using h0
  subst hl0;go_enter func99,ntmps99
  go_wp2_with (first
  |(refine A8 rfl (Zo rfl rfl rfl) ?_))
  go_ret;exact ⟨⟨_,rfl,World.ownsRow_nil _ _ _ _⟩,Below.refl _ _⟩
 ·obtain ⟨i5,hE⟩:=Md;have HE:=h_ hE;have HS:Hid (Src w (.slice (some A) (vs .u8 l).length c) (vs .u8 l)):=h_ (.inr ⟨A,c,rfl,hc⟩);clear hc hE;go_enter func99,ntmps99;have hm:=Own.nil w
  go_wp2_with (first
  |(refine A8 rfl (TF rfl rfl rfl) ?_)
  |(have _t:=hm;have hm3:=hm.uy #[] 5 (by simp);refine QC 0 hm3 rfl rfl HE.out rfl rfl rfl (HS.out.below hm3.below) (Ic _ _) (by simp only [Ai,List.length_nil];omega) (by simp only [Ai,List.length_nil];omega) ?_;intro ad4 c4 w4 hm4;simp only [List.set,List.nil_append,List.length_nil,Nat.zero_add] at hm4;clear hm hm3))
  go_ret;have h:=hm4.get 0 rfl;refine ⟨⟨_,rfl,?_⟩,hm4.below⟩;simpa [Ai] using h
theorem A8k (ga:Nat) (d:Value) (live peak:Int) (w:World) (hr:AA w ga (AR d live peak)):Calls prog 97 #[.pointer (some ⟨ga,0,none⟩)] w fun e w'=>e=.returned (.int .i64 peak)/\w'=w:=by
 go_enter func97,ntmps97
 go_wp2_with (first
 |(refine A8 rfl (Aa (off:=2) rfl rfl hr BG (AR2 _ _ _)) ?_))
 exact xg7
def rdt:Nat->Nat->OT->OT
|_,0,t=>t
|i,n+1,t=>.rd i (rdt (i+1) n t)
theorem A6O (ga gd a n:Nat) (l:I_) (live peak:Int) (w:World) (hr:AA w ga (AR (.slice (some ⟨gd,0,none⟩) l.length l.length) live peak)) (hd:AA w gd (B l)) (h1:(a:Int)+n<=live) (h2:live<=l.length) (h3:l.length<=1048576) (h4:0 < n):Calls prog 115 #[.pointer (some ⟨ga,0,none⟩),.agg (SP a n)] w (OwnB w (seg l a (a+n))):=by
 have CH:Hid (∀ W,AA W ga (AR (.slice (some ⟨gd,0,none⟩) l.length l.length) live peak)->Calls prog 64 #[.pointer (some ⟨ga,0,none⟩),.agg (SP a n)] W fun e w'=>(e=.returned (.bool true))/\Below W.heap.size W w'):=h_ fun W h=>vZ ga _ live peak a n W h (by omega) (by omega) h1 (by omega);have HR:=h_ hr.keep;have w1:IntKind.i64.wrap ((a:Int)+n)=((a+n:Nat):Int):=by rw [IntWalk.i64_in _ (by omega)];push_cast;rfl
 have c1:a<=a+n:=by omega
 have c2:a+n<=l.length:=by omega
 have HS:Hid (∀ W,Below w.heap.size w W->Src W (.slice (D8 (some ⟨gd,0,none⟩) l.length a) (a+n - a) (l.length - a)) (vs .u8 (seg l a (a+n)))):=h_ fun W hb=>by
  rw [Le _ _ _ (by omega)];refine Src.Pm (hd.keep W hb) a _ _ _ (by rw [Ai,QJ c2]) (fun j u hj=>?_);have hlt:=(List.getElem?_eq_some_iff.1 hj).1;rw [Ai,QJ c2] at hlt;rw [Fg _ _ j (by rw [QJ c2];exact hlt),zS c2 hlt] at hj;rw [Zd l (a+j) (by omega)];exact hj
 have CC:Hid (∀ W v,Src W v (vs .u8 (seg l a (a+n)))->Calls prog 99 #[v] W (OwnB W (seg l a (a+n)))):=h_ fun W v hv=>clone_any v _ W hv (by rw [QJ c2];omega);obtain ⟨i5,hE⟩:=Md;have HE:=h_ hE;clear hr hd h1 h2 h3 h4 hE;generalize seg l a (a+n)=S at *;generalize a+n=e at *;go_enter func115,ntmps115;have hm:=Own.nil w
 go_wp2_with (first
 |(refine Ar hm rfl rfl rfl ?_;intro w1 g hm1;clear hm)
 |(refine Ag rfl rfl rfl (hm1.row 0 rfl) (Eo _ _) ?_)
 |(go_at_call 64;have _t:=hm1;refine (CH.out _ (HR.out _ hm1.below)).mono ?_;rintro x w2 ⟨rfl,hb2⟩;have hm2:=hm1.call hb2;clear hm1))
 refine IL (rdt 0 12 (.one 12 (.rd 13 .done))) (fun W=>Below w.heap.size w W/\AA W g (SP a n)/\AA W ga (AR (.slice (some ⟨gd,0,none⟩) l.length l.length) live peak)) rfl (by kernel_rfl) rfl (by kernel_rfl) (fun _ _ d _ _ h=>by cases d<;>exact h) ⟨(hm2.drawn (w2.drawn+1)).below,(hm2.drawn (w2.drawn+1)).row 0 rfl,HR.out _ (hm2.drawn (w2.drawn+1)).below⟩ ?_;have hn:=hm2.drawn (w2.drawn+1);generalize ({ w2 with drawn:=w2.drawn+1 }:World)=wn at hn ⊢;clear hm2;simp only [rdt]
 repeat ((first
 |(refine EW rfl rfl (fun W hW=>Aa (off:=0) rfl rfl hW.2.1 BG (SP0 _ _)) ?_)
 |(refine EW rfl rfl (fun W hW=>Aa (off:=1) rfl rfl hW.2.1 BG (SP1 _ _)) ?_)
 |(refine EW rfl rfl (fun W hW=>Aa (off:=0) rfl rfl hW.2.2 iO (AR0 _ _ _)) ?_)
 |(refine EW rfl rfl (fun W hW=>A2Y (l:=a) (h:=e) rfl HE.out rfl (.inr ⟨_,rfl⟩) (.inr ⟨_,rfl⟩) c1 c2) ?_)
 |(refine EW rfl rfl (fun W hW=>by go_simp;rfl) ?_));(try simp only [Act.put,s3]))
 refine yh ?_;refine iM rfl rfl (fun K hK=>?_);go_simp;refine (CC.out _ _ (HS.out _ hn.below)).mono ?_;rintro x v1 ⟨⟨r1,rfl,ho1⟩,hb1⟩;have k1:=hn.call hb1;have ho:=ownsRow_base ho1 hn.below.size;clear hn;refine hK _ _ ⟨_,fun _ h=>h,⟨k1.below,k1.row 0 rfl,HR.out _ k1.below⟩,?_⟩;clear hK K;refine EW rfl rfl (fun W hW=>by go_simp;rfl) ?_;simp only [Act.put,s3];refine XI ?_;go_simp;go_wp2;go_ret;exact ⟨⟨_,rfl,ho⟩,k1.below⟩
variable {a:Act} {ops:O_} {cs:A_} {Q:Exit->P_} {l:I_} {ss:List Sl} {bytes c g h k m n off p:Nat} {o:Oper} {hi lo x y:Operand} {A ad:Option Addr} {P:Program} {rs:Rws} {e t ty:TypeId} {i:TypeInfo} {z:Value} {w w0:World} {S:World->Prop}
def J4:A_->Nat->L_->A_
|cs,_,[]=>cs
|cs,o,v::r=>J4 (cs.setIfInBounds o v) (o+1) r
theorem set_self {α:Type} (l:List α) (i:Nat) (x:α) (h:l[i]?=some x):l.set i x=l:=by
 apply List.ext_getElem?;intro j;by_cases hj:i=j
 ·subst hj;have:=(List.getElem?_eq_some_iff.1 h).1;rw [List.getElem?_set_self this,h]
 ·rw [List.getElem?_set_ne hj]
theorem Own.setCells {w0:World} {ss:List Sl} {g:Nat} (i:Nat):∀ (vs:L_) (o:Nat) (w:World) (rs:Rws) (cs:A_),Own w0 w rs ss->rs[i]?=some (g,cs)->Own w0 (w.setCells g o vs) (rs.set i (g,J4 cs o vs)) ss
|[],o,w,rs,cs,h,hi=>by rw [J4,set_self rs i _ hi];exact h
|v::vs,o,w,rs,cs,h,hi=>by
  have h1:=h.setCell i o v hi;have hl:=(List.getElem?_eq_some_iff.1 hi).1;have h2:=Own.setCells i vs (o+1) _ _ (cs.setIfInBounds o v) h1 (by rw [List.getElem?_set_self hl]);rw [List.set_set] at h2;exact h2
def zeroAt:I_->Nat->Nat->I_
|l,_,0=>l
|l,o,n+1=>zeroAt (l.set o 0) (o+1) n
theorem A3B:∀ (n o:Nat) (l:I_),J4 (B l) o (List.replicate n (.int .u8 0))=B (zeroAt l o n)
|0,_,_=>rfl
|n+1,o,l=>by rw [List.replicate_succ,J4,A1c,A3B n (o+1) (l.set o 0),zeroAt]
theorem A3x:∀ (n o:Nat) (l:I_),(zeroAt l o n).length=l.length
|0,_,_=>rfl
|n+1,o,l=>by rw [zeroAt,A3x,List.length_set]
theorem zero5:∀ w,(zeroValue 5).run prog w=.ok (.int .u8 0) w:=fun w=>by kernel_rfl
theorem A5h (i:Nat) (hm:Own w0 w rs ss) (ho:o.op=.call { callee:=.builtin .clear,args:=#[x],argTypes:=#[22] }) (hx:a.eval x=.slice (some ⟨g,p,none⟩) n c) (hi:rs[i]?=some (g,B l)) (h0:0 < n) (hn:p+n<=l.length) :
  ∃ w',(execOp a.eval o).run prog w=.ok (.value (.tuple #[])) w'/\Own w0 w' (rs.set i (g,B (zeroAt l p n))) ss:=by
 have hr:=hm.row i hi;have hc:∀ j,j < n->w.cell? ⟨g,p+j,none⟩=some (.int .u8 (gi l (p+j))):=fun j hj=>by rw [hr.cell,Zd l _ (by omega)]
 have hcl:=Lib.run_clear_slice (P:=prog) w 22 5 o.type (.int .u8 0) underlying22 zero5 rfl rfl g p n c h0 (fun j hj=>by rw [hc j hj];rfl) (fun j _=>hr.free (p+j));refine ⟨w.setCells g p (List.replicate n (.int .u8 0)),?_,?_⟩
 ·unfold execOp;simp only [ho,resolve,invoke,builtin,s_b,s_p,r_o,l_y,List.map_cons,List.map_nil,hx,hcl]
 ·have h:=Own.setCells i (List.replicate n (.int .u8 0)) p w rs (B l) hm hi;rwa [A3B] at h
theorem A5d {t:OT} (i:Nat) (hm:Own w0 w rs ss) (ho':ops.toList[k]?=some o) (hw:Region.wanted o (yielded ops a.tmps)=true) (ho:o.op=.call { callee:=.builtin .clear,args:=#[x],argTypes:=#[22] }) (hx:a.eval x=.slice (some ⟨g,p,none⟩) n c) (hi:rs[i]?=some (g,B l)) (h0:0 < n) (hn:p+n<=l.length)
  (hS:∀ w',Own w0 w' (rs.set i (g,B (zeroAt l p n))) ss->S w') (h:∀ w',Own w0 w' (rs.set i (g,B (zeroAt l p n))) ss->wpT prog ops Q t S (a.put o.dst (.tuple #[])) w'):lT prog ops Q k t S a w:=by
 obtain ⟨w',hr,h2⟩:=A5h i hm ho hx hi h0 hn;exact Ym ho' hw hr (hS _ h2) (h _ h2)
theorem bI (ht:P.underlying t=some (.slice e)) (ty:TypeId) (a:Option Addr) (c:Nat) (w:World):(Builtin.clear_ #[t] ty #[.slice a 0 c]).run P w=.ok (.tuple #[]) w:=by
 cases a<;>simp [Builtin.clear_,r_u ht]
theorem Zp (ho:o.op=.call { callee:=.builtin .clear,args:=#[x],argTypes:=#[22] }) (hx:a.eval x=.slice A 0 c):(execOp a.eval o).run prog w=.ok (.value (.tuple #[])) w:=by
 unfold execOp;simp only [ho,resolve,invoke,builtin,s_b,s_p,r_o,l_y,List.map_cons,List.map_nil,hx,bI underlying22]
theorem qp (w:World):(zeroValue 50).run prog w=.ok (.agg (SP 0 0)) w:=by kernel_rfl
theorem A19 (d:Value) (l p n:Int):(AR d l p).setIfInBounds 1 (.int .i64 n)=AR d n p:=rfl
theorem A18 (d:Value) (l p n:Int):(AR d l p).setIfInBounds 2 (.int .i64 n)=AR d l n:=rfl
def imax (a b:Int):Int:=if a < b then b else a
theorem A4L (ho:o.op=.slice t x (some lo) (some hi) none) (he:Gv P t e i z bytes) {l:Nat} (hx:a.eval x=.slice (some ⟨g,0,none⟩) n c) (hl:a.eval lo=.int .i64 l) (hh:a.eval hi=.int .i64 h) (hm:h=l+m) (h1:l < c) (h2:l+m<=c) :
  (execOp a.eval o).run P w=.ok (.value (.slice (some ⟨g,l,none⟩) m (c - l))) w:=by
 have h:=A2Y (P:=P) (w:=w) (l:=l) (h:=h) ho he hx (.inr ⟨.i64,by simp [hl]⟩) (.inr ⟨.i64,by simp [hh]⟩) (by omega) (by omega);rw [h,Le _ _ _ h1,hm,show l+m - l=m by omega]
theorem UM (ho:o.op=.slice t x (some lo) (some hi) none) (he:Gv P t e i z bytes) {l:Nat} (hx:a.eval x=.slice ad n c) (hl:a.eval lo=.int .i64 l) (hh:a.eval hi=.int .i64 h) (hm:h=l) (h2:l<=c) :
  (execOp a.eval o).run P w=.ok (.value (.slice (D8 ad c l) 0 (c - l))) w:=by
 have h:=A2Y (P:=P) (w:=w) (l:=l) (h:=h) ho he hx (.inr ⟨.i64,by simp [hl]⟩) (.inr ⟨.i64,by simp [hh]⟩) (by omega) (by omega);rw [h,hm,Nat.sub_self]
theorem Oe (i:Nat) (hm:Own w0 w rs ss) (ho:o.op=.store ty x y) (hx:a.eval x=.pointer (some ⟨g,off,none⟩)) {v:Value} (hy:a.eval y=v) (hi:rs[i]?=some (g,cs)) (ht:ET P ty) (hf:off < cs.size) (hc:v.cells=#[v]) (h1:v.oneCell'=true) :
  (execOp a.eval o).run P w=.ok .skip (w.setCell ⟨g,off,none⟩ v):=by
 have hr:=hm.row i hi;have hcell:w.cell? ⟨g,off,none⟩=some cs[off]:=by rw [hr.cell];simp [hf]
 have hst:(store ⟨g,off,none⟩ v).run P w=.ok () (w.setCell ⟨g,off,none⟩ v):=by
  rw [run_store P w _ v _ h1,hcell];simp [hr.free off]
 cases hq:P.info? ty with
|none=>have:=ht.2;simp [hq] at this
|some i =>
  exact xcg
theorem WZ {t:OT} (i:Nat) (hm:Own w0 w rs ss) (ho':ops.toList[k]?=some o) (hw:Region.wanted o (yielded ops a.tmps)=true) (ho:o.op=.store ty x y) (hx:a.eval x=.pointer (some ⟨g,off,none⟩)) {v:Value} (hy:a.eval y=v) (hi:rs[i]?=some (g,cs)) (ht:ET P ty) (hf:off < cs.size) (hc:v.cells=#[v]) (h1:v.oneCell'=true)
  (hS:∀ w',Own w0 w' (rs.set i (g,cs.setIfInBounds off v)) ss->S w') (h:∀ w',Own w0 w' (rs.set i (g,cs.setIfInBounds off v)) ss->wpT P ops Q t S (a.put o.dst undef) w'):lT P ops Q k t S a w :=
 cu ho' hw (Oe i hm ho hx hy hi ht hf hc h1) (hS _ (hm.setCell i off v hi)) (h _ (hm.setCell i off v hi))
theorem A6k (ga gd live n:Nat) (l:I_) (peak:Int) (w0 w:World) (rs:Rws) (ss:List Sl) (hm:Own w0 w ((ga,AR (.slice (some ⟨gd,0,none⟩) l.length l.length) live peak)::(gd,B l)::rs) ss) (h2:live+n<=l.length) (h3:l.length<=1048576) (h4:0 < n):Calls prog 23 #[.pointer (some ⟨ga,0,none⟩),.int .i64 n] w fun e w'=>(e=.returned (.tuple #[.agg (SP live n),.int .i64 0]))/\Own w0 w' ((ga,AR (.slice (some ⟨gd,0,none⟩) l.length l.length) ((live+n:Nat):Int) (imax peak ((live+n:Nat):Int)))::(gd,B (zeroAt l live n))::rs) ss:=by
 have q1:decide ((n:Int) < 0)=false:=d_f;have q2:decide ((l.length:Int) - live < n)=false:=d_f;have w1:IntKind.i64.wrap ((l.length:Int) - live)=(l.length:Int) - live:=i_6;have w2:IntKind.i64.wrap ((live:Int)+n)=((live+n:Nat):Int):=by rw [IntWalk.i64_in _ (by omega)];push_cast;rfl
 have c1:live<=live+n:=by omega
 have c3:live < l.length:=by omega
 have H2:=h_ h2;obtain ⟨e,hee⟩:∃ e,e=live+n:=⟨_,rfl⟩;rw [<- hee] at w2 c1 ⊢;have HEE:=h_ hee;clear hee h2;obtain ⟨i5,hE⟩:=Md;have HE:=h_ hE;clear hE;go_enter func23,ntmps23
 go_wp2_with (first
 |(refine AL hm rfl rfl qp ?_;intro w3 g hm1;clear hm))
 refine IL (rdt 0 13 .done) (fun W=>AA W ga (AR (.slice (some ⟨gd,0,none⟩) l.length l.length) live peak)) rfl (by kernel_rfl) rfl (by kernel_rfl) (fun _ _ d _ _ h=>by cases d<;>exact h) ((hm1.drawn (w3.drawn+1)).row 1 rfl) ?_;have hn:=hm1.drawn (w3.drawn+1);generalize ({ w3 with drawn:=w3.drawn+1 }:World)=wn at hn ⊢;clear hm1;simp only [rdt]
 repeat ((first
 |(refine EW rfl rfl (fun W hW=>Aa (off:=0) rfl rfl hW iO (AR0 _ _ _)) ?_)
 |(refine EW rfl rfl (fun W hW=>Aa (off:=1) rfl rfl hW BG (AR1 _ _ _)) ?_)
 |(refine EW rfl rfl (fun W hW=>by go_simp;rfl) ?_));(try simp only [Act.put,s3]))
 refine XI ?_;go_simp
 go_upto_region 6 with (first
 |(refine A8 rfl (Aa (off:=1) rfl rfl (hn.row 1 rfl) BG (AR1 _ _ _)) ?_)
 |(refine AL hn rfl rfl qp ?_;intro w4 g6 hm4;clear hn)
 |(refine AY (vs:=SP live n) 0 hm4 rfl rfl rfl rfl rfl (Eo _ _) rfl (yw _ _) ?_;intro w5 hm5;simp only [List.set] at hm5;clear hm4))
 refine IL (rdt 0 11 (.one 11 .done)) (fun W=>AA W g6 (SP live n)/\AA W ga (AR (.slice (some ⟨gd,0,none⟩) l.length l.length) live peak)) rfl (by kernel_rfl) rfl (by kernel_rfl) (fun _ _ d _ _ h=>by cases d<;>exact h) ⟨(hm5.drawn (w5.drawn+1)).row 0 rfl,(hm5.drawn (w5.drawn+1)).row 2 rfl⟩ ?_;have k1:=hm5.drawn (w5.drawn+1);generalize ({ w5 with drawn:=w5.drawn+1 }:World)=wn2 at k1 ⊢;clear hm5;simp only [rdt]
 repeat ((first
 |(refine EW rfl rfl (fun W hW=>Aa (off:=0) rfl rfl hW.2 iO (AR0 _ _ _)) ?_)
 |(refine EW rfl rfl (fun W hW=>Aa (off:=0) rfl rfl hW.1 BG (SP0 _ _)) ?_)
 |(refine EW rfl rfl (fun W hW=>A4L (l:=live) (h:=e) (m:=n) rfl HE.out rfl rfl rfl HEE.out c3 H2.out) ?_)
 |(refine EW rfl rfl (fun W hW=>by go_simp;rfl) ?_));(try simp only [Act.put,s3]))
 refine yh ?_;refine A5d 3 k1 rfl rfl rfl rfl rfl h4 H2.out (fun w6 k2=>⟨k2.row 0 rfl,k2.row 2 rfl⟩) (fun w6 k2=>?_);simp only [List.set] at k2;clear k1
 try simp only [Act.put]
 refine XI ?_;go_simp
 go_upto_region 8 with (first
 |(refine A8 rfl (Aa (off:=1) rfl rfl (k2.row 2 rfl) BG (AR1 _ _ _)) ?_)
 |(refine BL (off:=1) (v:=.int .i64 (e:Int)) 2 k2 rfl rfl rfl rfl rfl BG (by show 1 < 3;decide) rfl rfl (A19 _ _ _ _) ?_;intro w7 hm7;simp only [List.set] at hm7;clear k2))
 exact xgi
theorem take_zero (ga gd live n:Nat) (l:I_) (peak:Int) (w0 w:World) (rs:Rws) (ss:List Sl) (hm:Own w0 w ((ga,AR (.slice (some ⟨gd,0,none⟩) l.length l.length) live peak)::(gd,B l)::rs) ss) (h2:live+n<=l.length) (h3:l.length<=1048576) (h4:n=0):Calls prog 23 #[.pointer (some ⟨ga,0,none⟩),.int .i64 n] w fun e w'=>(e=.returned (.tuple #[.agg (SP live n),.int .i64 0]))/\Own w0 w' ((ga,AR (.slice (some ⟨gd,0,none⟩) l.length l.length) ((live+n:Nat):Int) (imax peak ((live+n:Nat):Int)))::(gd,B l)::rs) ss:=by
 have q1:decide ((n:Int) < 0)=false:=d_f;have q2:decide ((l.length:Int) - live < n)=false:=d_f;have w1:IntKind.i64.wrap ((l.length:Int) - live)=(l.length:Int) - live:=i_6;have w2:IntKind.i64.wrap ((live:Int)+n)=((live+n:Nat):Int):=by rw [IntWalk.i64_in _ (by omega)];push_cast;rfl
 have c1:live<=live+n:=by omega
 have H2:=h_ h2;obtain ⟨e,hee⟩:∃ e,e=live+n:=⟨_,rfl⟩;rw [<- hee] at w2 c1 ⊢;have HEE:=h_ hee;have HLE:Hid (live<=l.length):=h_ (by omega);have HZ:Hid (e=live):=h_ (by omega);clear h4;clear hee h2;obtain ⟨i5,hE⟩:=Md;have HE:=h_ hE;clear hE;go_enter func23,ntmps23
 go_wp2_with (first
 |(refine AL hm rfl rfl qp ?_;intro w3 g hm1;clear hm))
 refine IL (rdt 0 13 .done) (fun W=>AA W ga (AR (.slice (some ⟨gd,0,none⟩) l.length l.length) live peak)) rfl (by kernel_rfl) rfl (by kernel_rfl) (fun _ _ d _ _ h=>by cases d<;>exact h) ((hm1.drawn (w3.drawn+1)).row 1 rfl) ?_;have hn:=hm1.drawn (w3.drawn+1);generalize ({ w3 with drawn:=w3.drawn+1 }:World)=wn at hn ⊢;clear hm1;simp only [rdt]
 repeat ((first
 |(refine EW rfl rfl (fun W hW=>Aa (off:=0) rfl rfl hW iO (AR0 _ _ _)) ?_)
 |(refine EW rfl rfl (fun W hW=>Aa (off:=1) rfl rfl hW BG (AR1 _ _ _)) ?_)
 |(refine EW rfl rfl (fun W hW=>by go_simp;rfl) ?_));(try simp only [Act.put,s3]))
 refine XI ?_;go_simp
 go_upto_region 6 with (first
 |(refine A8 rfl (Aa (off:=1) rfl rfl (hn.row 1 rfl) BG (AR1 _ _ _)) ?_)
 |(refine AL hn rfl rfl qp ?_;intro w4 g6 hm4;clear hn)
 |(refine AY (vs:=SP live n) 0 hm4 rfl rfl rfl rfl rfl (Eo _ _) rfl (yw _ _) ?_;intro w5 hm5;simp only [List.set] at hm5;clear hm4))
 refine IL (rdt 0 11 (.one 11 .done)) (fun W=>AA W g6 (SP live n)/\AA W ga (AR (.slice (some ⟨gd,0,none⟩) l.length l.length) live peak)) rfl (by kernel_rfl) rfl (by kernel_rfl) (fun _ _ d _ _ h=>by cases d<;>exact h) ⟨(hm5.drawn (w5.drawn+1)).row 0 rfl,(hm5.drawn (w5.drawn+1)).row 2 rfl⟩ ?_;have k1:=hm5.drawn (w5.drawn+1);generalize ({ w5 with drawn:=w5.drawn+1 }:World)=wn2 at k1 ⊢;clear hm5;simp only [rdt]
 repeat ((first
 |(refine EW rfl rfl (fun W hW=>Aa (off:=0) rfl rfl hW.2 iO (AR0 _ _ _)) ?_)
 |(refine EW rfl rfl (fun W hW=>Aa (off:=0) rfl rfl hW.1 BG (SP0 _ _)) ?_)
 |(refine EW rfl rfl (fun W hW=>UM (l:=live) (h:=e) rfl HE.out rfl rfl rfl HZ.out HLE.out) ?_)
 |(refine EW rfl rfl (fun W hW=>by go_simp;rfl) ?_));(try simp only [Act.put,s3]))
 refine yh ?_;refine Ym rfl rfl (Zp rfl rfl) ⟨k1.row 0 rfl,k1.row 2 rfl⟩ ?_;have k2:=k1;clear k1
 try simp only [Act.put]
 refine XI ?_;go_simp
 go_upto_region 8 with (first
 |(refine A8 rfl (Aa (off:=1) rfl rfl (k2.row 2 rfl) BG (AR1 _ _ _)) ?_)
 |(refine BL (off:=1) (v:=.int .i64 (e:Int)) 2 k2 rfl rfl rfl rfl rfl BG (by show 1 < 3;decide) rfl rfl (A19 _ _ _ _) ?_;intro w7 hm7;simp only [List.set] at hm7;clear k2))
 exact xgi
variable {cs ns:A_} {bytes g k n off t:Nat} {r:Nat × A_} {x y:Operand} {e ty:TypeId} {q:TypeInfo} {z:Value}
def oneL:N_:=[3,4,5,9,22,25,46,68,70,72,97,102,104,124,211,232,239,276,304,311,361]
theorem ot (h:oneL.contains t=true):ET prog t:=by
 simp only [oneL,List.contains_cons,List.contains_nil,Bool.or_eq_true,beq_iff_eq,Bool.or_false] at h;rcases h with rfl|rfl|rfl|rfl|rfl|rfl|rfl|rfl|rfl|rfl|rfl|rfl|rfl|rfl|rfl|rfl|rfl|rfl|rfl|rfl|rfl
 all_goals exact ⟨fun w=>by kernel_rfl,by kernel_rfl⟩
def aggL:List (Nat × Nat):=[(50,2),(74,3),(76,7),(80,1),(86,2),(88,7),(106,15),(110,3),(114,9),(115,256),(121,266),(132,4),(134,1),(137,4),(139,258),(141,262),(143,260),(145,256),(147,260),(149,795),(172,9),(184,257),(199,3),(219,256),(227,258),(241,2),(268,257),(281,2),(283,2),(287,258),(290,4),(296,16),(309,3),(313,6)]
theorem ag (h:aggL.contains (t,n)=true):Aq prog t n:=by
 simp only [aggL,List.contains_cons,List.contains_nil,Bool.or_eq_true,beq_iff_eq,Bool.or_false,Prod.mk.injEq] at h;rcases h with ⟨rfl,rfl⟩|⟨rfl,rfl⟩|⟨rfl,rfl⟩|⟨rfl,rfl⟩|⟨rfl,rfl⟩|⟨rfl,rfl⟩|⟨rfl,rfl⟩|⟨rfl,rfl⟩|⟨rfl,rfl⟩|⟨rfl,rfl⟩|⟨rfl,rfl⟩|⟨rfl,rfl⟩|⟨rfl,rfl⟩|⟨rfl,rfl⟩|⟨rfl,rfl⟩|⟨rfl,rfl⟩|⟨rfl,rfl⟩|⟨rfl,rfl⟩|⟨rfl,rfl⟩|⟨rfl,rfl⟩|⟨rfl,rfl⟩|⟨rfl,rfl⟩|⟨rfl,rfl⟩|⟨rfl,rfl⟩|⟨rfl,rfl⟩|⟨rfl,rfl⟩|⟨rfl,rfl⟩|⟨rfl,rfl⟩|⟨rfl,rfl⟩|⟨rfl,rfl⟩|⟨rfl,rfl⟩|⟨rfl,rfl⟩|⟨rfl,rfl⟩|⟨rfl,rfl⟩
 ·exact Aq.mk' underlying50 rfl (by kernel_rfl)
 ·exact Aq.mk' underlying74 rfl (by kernel_rfl)
 ·exact Aq.mk' underlying76 rfl (by kernel_rfl)
 ·exact Aq.mk' underlying80 rfl (by kernel_rfl)
 ·exact Aq.mk' underlying86 rfl (by kernel_rfl)
 ·exact Aq.mk' underlying88 rfl (by kernel_rfl)
 ·exact Aq.mk' underlying106 rfl (by kernel_rfl)
 ·exact Aq.mk' underlying110 rfl (by kernel_rfl)
 ·exact Aq.mk' underlying114 rfl (by kernel_rfl)
 ·exact Aq.mk' underlying115 rfl (by kernel_rfl)
 ·exact Aq.mk' underlying121 rfl (by kernel_rfl)
 ·exact Aq.mk' underlying132 rfl (by kernel_rfl)
 ·exact Aq.mk' underlying134 rfl (by kernel_rfl)
 ·exact Aq.mk' underlying137 rfl (by kernel_rfl)
 ·exact Aq.mk' underlying139 rfl (by kernel_rfl)
 ·exact Aq.mk' underlying141 rfl (by kernel_rfl)
 ·exact Aq.mk' underlying143 rfl (by kernel_rfl)
 ·exact Aq.mk' underlying145 rfl (by kernel_rfl)
 ·exact Aq.mk' underlying147 rfl (by kernel_rfl)
 ·exact Aq.mk' underlying149 rfl (by kernel_rfl)
 ·exact Aq.mk' underlying172 rfl (by kernel_rfl)
 ·exact Aq.mk' underlying184 rfl (by kernel_rfl)
 ·exact Aq.mk' underlying199 rfl (by kernel_rfl)
 ·exact Aq.mk' underlying219 rfl (by kernel_rfl)
 ·exact Aq.mk' underlying227 rfl (by kernel_rfl)
 ·exact Aq.mk' underlying241 rfl (by kernel_rfl)
 ·exact Aq.mk' underlying268 rfl (by kernel_rfl)
 ·exact Aq.mk' underlying281 rfl (by kernel_rfl)
 ·exact Aq.mk' underlying283 rfl (by kernel_rfl)
 ·exact Aq.mk' underlying287 rfl (by kernel_rfl)
 ·exact Aq.mk' underlying290 rfl (by kernel_rfl)
 ·exact Aq.mk' underlying296 rfl (by kernel_rfl)
 ·exact Aq.mk' underlying309 rfl (by kernel_rfl)
 ·exact Aq.mk' underlying313 rfl (by kernel_rfl)
theorem A70 (w:World):(zeroValue 50).run prog w=.ok (.agg #[.int .i64 0,.int .i64 0]) w:=by kernel_rfl
theorem qh (w:World):(zeroValue 74).run prog w=.ok (.agg #[.int .i64 0,.int .i64 0,.int .u32 0]) w:=by kernel_rfl
theorem zr80 (w:World):(zeroValue 80).run prog w=.ok (.agg #[.int .i64 0]) w:=by kernel_rfl
theorem Ja (w:World):(zeroValue 86).run prog w=.ok (.agg #[.int .i64 0,.int .i64 0]) w:=by kernel_rfl
theorem H9 (w:World):(zeroValue 88).run prog w=.ok (.agg #[.int .i64 0,.int .i64 0,.int .i64 0,.int .i64 0,.int .i64 0,.int .u32 0,.int .i64 0]) w:=by kernel_rfl
theorem NK (w:World):(zeroValue 137).run prog w=.ok (.agg #[.int .i64 0,.int .i64 0,.int .i64 0,.int .i64 0]) w:=by kernel_rfl
theorem A7t (w:World):(zeroValue 199).run prog w=.ok (.agg #[.int .u8 0,.int .u8 0,.int .u8 0]) w:=by kernel_rfl
theorem Dp {cs:L_} (h:cs.all Value.oneCell'=true):∀ v ∈ cs.toArray,v.oneCell'=true:=fun v hv=>List.all_eq_true.1 h v (by simpa using hv)
theorem MV {α:Type}:∀ (l:List α) (i:Nat) (x:α),l[i]?=some x->(x::l.eraseIdx i).Perm l
|[],_,_,h=>by simp at h
|a::l,0,x,h=>by simp at h;subst h;exact List.Perm.refl _
|a::l,i+1,x,h=>by
  simp only [List.getElem?_cons_succ] at h;simp only [List.eraseIdx_cons_succ];exact (List.Perm.swap a x _).trans ((MV l i x h).cons a)
theorem Own.front {w0 w:World} {rs:Rws} {ss:List Sl} (i:Nat) (h:Own w0 w rs ss) (hi:rs[i]?=some r):Own w0 w (r::rs.eraseIdx i) ss:=by
 have hp:=MV rs i r hi;exact ⟨⟨h.mem.below,fun p hp'=>h.mem.own p (hp.mem_iff.1 hp'),fun p hp'=>h.mem.rows p (hp.mem_iff.1 hp'),(hp.map _).nodup_iff.2 h.mem.apart⟩,h.sl,((hp.map Prod.fst).append_left _).nodup_iff.2 h.apart⟩
section
variable {P:Program} {w0 w:World} {rs:Rws} {ss:List Sl} {o:Oper} {a:Act} {K:Value->World->Prop}
theorem Ac {v:Value} (h:a.tmps.toList[k]?=some v):a.eval (.tmp k)=v:=by
 have h':a.tmps[k]?=some v:=by rw [<- a_g];exact h
 simp [Act.eval,h']
theorem Dl (hm:Own w0 w rs ss) (ho:o.op=.alloc ty) (hz:∀ w,(zeroValue ty).run P w=.ok (.agg cs) w)
  (h:∀ w' g,Own w0 w' ((g,cs)::rs) ss->K (.pointer (some ⟨g,0,none⟩)) w'):Eff P o a w K:=Eff.val (eu ho hz) (h _ _ (hm.alloc cs ty))
theorem A0m (hm:Own w0 w rs ss) (ho:o.op=.box ty x) (hx:a.eval x=.agg cs)
  (h:∀ w' g,Own w0 w' ((g,cs)::rs) ss->K (.pointer (some ⟨g,0,none⟩)) w'):Eff P o a w K:=by
 refine Eff.val (v:=.pointer (some ⟨w.heap.size,0,none⟩)) (w':=w.alloc (.cells cs ty)) ?_ (h _ _ (hm.alloc cs ty));unfold execOp;simp only [ho,hx,Instr.box,s_b,s_p];rfl
theorem Aw (i:Nat) (hm:Own w0 w rs ss) (ho:o.op=.store ty x y) (hx:a.eval x=.pointer (some ⟨g,0,none⟩)) {vs:A_} (hy:a.eval y=.agg vs)
  (hi:rs[i]?=some (g,cs)) (ht:Aq P ty vs.size) (hs:vs.size=cs.size) (h1:∀ v ∈ vs,v.oneCell'=true)
  (h:∀ w',Own w0 w' (rs.set i (g,vs)) ss->K undef w'):Eff P o a w K:=by
 have hrun:=Gn (P:=P) (off:=0) ho hx hy (hm.row i hi) ht rfl (by omega) h1;rw [GI cs vs hs] at hrun;exact Eff.skip hrun (h _ (hm.setRow i vs hi))
theorem Aj (i:Nat) (hm:Own w0 w rs ss) (ho:o.op=.store ty x y) (hx:a.eval x=.pointer (some ⟨g,off,none⟩)) {vs:A_} (hy:a.eval y=.agg vs)
  (hi:rs[i]?=some (g,cs)) (ht:Aq P ty vs.size) (hf:off+vs.size<=cs.size) (h1:∀ v ∈ vs,v.oneCell'=true) (hn:splice cs off vs=ns)
  (h:∀ w',Own w0 w' (rs.set i (g,ns)) ss->K undef w'):Eff P o a w K:=by
 have hrun:=Gn (P:=P) (off:=off) ho hx hy (hm.row i hi) ht rfl hf h1;rw [hn] at hrun;exact Eff.skip hrun (h _ (hm.setRow i ns hi))
theorem AZ (i:Nat) (hm:Own w0 w rs ss) (ho:o.op=.store ty x y) (hx:a.eval x=.pointer (some ⟨g,off,none⟩)) {v:Value} (hy:a.eval y=v) 
  (hi:rs[i]?=some (g,cs)) (ht:ET P ty) (hf:off < cs.size) (hc:v.cells=#[v]) (h1:v.oneCell'=true) (hn:cs.setIfInBounds off v=ns)
  (h:∀ w',Own w0 w' (rs.set i (g,ns)) ss->K undef w'):Eff P o a w K:=by
 have hh:=hm.setCell i off v hi;rw [hn] at hh;exact Eff.skip (Oe i hm ho hx hy hi ht hf hc h1) (h _ hh)
theorem JQ (hm:Own w0 w rs ss) (ho:o.op=.buildSlice ty 1 #[(0,x)]) (he:Gv P ty e q z bytes) {v:Value} (hx:a.eval x=v) (hv:v.cells=#[v])
  (h:∀ w' g,Own w0 w' ((g,#[v])::rs) ss->K (.slice (some ⟨g,0,none⟩) 1 1) w'):Eff P o a w K :=
 Eff.val (Qo ho he hx hv) (h _ _ (hm.alloc #[v] e))
end
section
variable {P:Program} {w0 w:World} {rs:Rws} {ss:List Sl} {o:Oper} {a:Act}
theorem ld (i:Nat) (hm:Own w0 w rs ss) (ho:o.op=.load ty x) (hx:a.eval x=.pointer (some ⟨g,off,none⟩)) {v:Value} (hi:rs[i]?=some (g,cs))
  (ht:ET P ty) (hv:cs[off]?=some v):(execOp a.eval o).run P w=.ok (.value v) w:=Aa ho hx (hm.row i hi) ht hv
theorem lda (i:Nat) (hm:Own w0 w rs ss) (ho:o.op=.load ty x) (hx:a.eval x=.pointer (some ⟨g,0,none⟩)) (hi:rs[i]?=some (g,cs)) (ht:Aq P ty cs.size) :
  (execOp a.eval o).run P w=.ok (.value (.agg cs)) w:=Du ho hx (hm.row i hi) ht
theorem ldp (i:Nat) (hm:Own w0 w rs ss) (ho:o.op=.load ty x) (hx:a.eval x=.pointer (some ⟨g,off,none⟩)) {vs:A_} (hi:rs[i]?=some (g,cs)) (hv:cs.extract off (off+vs.size)=vs) (ht:Aq P ty vs.size) (hf:off+vs.size<=cs.size) :
  (execOp a.eval o).run P w=.ok (.value (.agg vs)) w:=by
 have h:=Gp (P:=P) (off:=off) ho hx (hm.row i hi) ht hf;rwa [hv] at h
end
open Go Go.RowKit
variable {x y z:Operand} {hi lo:Option Operand} {t u:TypeId}
section
variable {P:Program} {ops:O_} {Q:Exit->P_} {rest:Q_} {a:Act} {w:World} {dst:Option Tmp} {ty:TypeId} {pos:String} {af:Array Edge} {g:Option (Nat × Bool)}
theorem gLd (h:wpList P ops Q (⟨dst,.load t x,ty,pos,af,g⟩::rest) a w):wpList P ops Q (⟨dst,.load t x,ty,pos,af,g⟩::rest) a w:=h
theorem gSt (h:wpList P ops Q (⟨dst,.store t x y,ty,pos,af,g⟩::rest) a w):wpList P ops Q (⟨dst,.store t x y,ty,pos,af,g⟩::rest) a w:=h
theorem gAl (h:wpList P ops Q (⟨dst,.alloc t,ty,pos,af,g⟩::rest) a w):wpList P ops Q (⟨dst,.alloc t,ty,pos,af,g⟩::rest) a w:=h
theorem gBx (h:wpList P ops Q (⟨dst,.box t x,ty,pos,af,g⟩::rest) a w):wpList P ops Q (⟨dst,.box t x,ty,pos,af,g⟩::rest) a w:=h
theorem gBu {ps:Array (Nat × Operand)} (h:wpList P ops Q (⟨dst,.build t ps,ty,pos,af,g⟩::rest) a w):wpList P ops Q (⟨dst,.build t ps,ty,pos,af,g⟩::rest) a w:=h
theorem gIn (h:wpList P ops Q (⟨dst,.insert t x y z,ty,pos,af,g⟩::rest) a w):wpList P ops Q (⟨dst,.insert t x y z,ty,pos,af,g⟩::rest) a w:=h
theorem gMm {rv:Option Operand} (h:wpList P ops Q (⟨dst,.makeMap t rv,ty,pos,af,g⟩::rest) a w):wpList P ops Q (⟨dst,.makeMap t rv,ty,pos,af,g⟩::rest) a w:=h
theorem gMs (h:wpList P ops Q (⟨dst,.makeSlice t x y,ty,pos,af,g⟩::rest) a w):wpList P ops Q (⟨dst,.makeSlice t x y,ty,pos,af,g⟩::rest) a w:=h
theorem gSl {mx:Option Operand} (h:wpList P ops Q (⟨dst,.slice t x lo hi mx,ty,pos,af,g⟩::rest) a w):wpList P ops Q (⟨dst,.slice t x lo hi mx,ty,pos,af,g⟩::rest) a w:=h
theorem gIa (h:wpList P ops Q (⟨dst,.indexAddr t x y,ty,pos,af,g⟩::rest) a w):wpList P ops Q (⟨dst,.indexAddr t x y,ty,pos,af,g⟩::rest) a w:=h
theorem gIx (h:wpList P ops Q (⟨dst,.index t x y,ty,pos,af,g⟩::rest) a w):wpList P ops Q (⟨dst,.index t x y,ty,pos,af,g⟩::rest) a w:=h
theorem gLk {ok:Bool} (h:wpList P ops Q (⟨dst,.lookup t x y ok,ty,pos,af,g⟩::rest) a w):wpList P ops Q (⟨dst,.lookup t x y ok,ty,pos,af,g⟩::rest) a w:=h
theorem gBo {b:BinOp} (h:wpList P ops Q (⟨dst,.binOp b t x y u,ty,pos,af,g⟩::rest) a w):wpList P ops Q (⟨dst,.binOp b t x y u,ty,pos,af,g⟩::rest) a w:=h
end
variable {cs:A_} {g off:Nat} {x y:Operand} {ty:TypeId} {u0 u1 u2:Value}
theorem Xk (vs:L_) (h:∀ j u,vs[j]?=some u->cs[off+j]?=some u) (h0:vs ≠ []):cs.extract off (off+vs.length)=vs.toArray/\off+vs.length<=cs.size:=by
 have hf:off+vs.length<=cs.size:=by
  have hl:0 < vs.length:=List.length_pos_iff.2 h0;have:=h (vs.length - 1) vs[vs.length - 1] (l_e (by omega));have:=(Array.getElem?_eq_some_iff.1 this).1;omega
 refine ⟨?_,hf⟩;apply Array.ext
 ·simp;omega
 ·intro i h1 h2;have hi:i < vs.length:=by simpa using h2
  have:=h i vs[i] (l_e hi);obtain ⟨q,hq⟩:=Array.getElem?_eq_some_iff.1 this;simp [hq]
section
variable {P:Program} {w0 w:World} {rs:Rws} {ss:List Sl} {o:Oper} {a:Act}
theorem ldn (i:Nat) (hm:Own w0 w rs ss) (ho:o.op=.load ty x) (hx:a.eval x=.pointer (some ⟨g,off,none⟩)) (vs:L_) (hi:rs[i]?=some (g,cs)) (h:∀ j u,vs[j]?=some u->cs[off+j]?=some u) (h0:vs ≠ []) (ht:Aq P ty vs.length) :
  (execOp a.eval o).run P w=.ok (.value (.agg vs.toArray)) w:=by
 obtain ⟨h1,h2⟩:=Xk vs h h0;have:=Gp (P:=P) (off:=off) ho hx (hm.row i hi) ht h2;rwa [h1] at this
theorem ld2 (i:Nat) (hm:Own w0 w rs ss) (ho:o.op=.load ty x) (hx:a.eval x=.pointer (some ⟨g,off,none⟩)) (hi:rs[i]?=some (g,cs)) (ht:Aq P ty 2) (h0:cs[off]?=some u0) (h1:cs[off+1]?=some u1) :
  (execOp a.eval o).run P w=.ok (.value (.agg #[u0,u1])) w :=
 ldn i hm ho hx [u0,u1] hi (fun j u hj=>by
  match j,hj with
 |0,hj=>simp at hj;subst hj;exact h0
 |1,hj=>simp at hj;subst hj;exact h1) (by simp) ht
theorem ld3 (i:Nat) (hm:Own w0 w rs ss) (ho:o.op=.load ty x) (hx:a.eval x=.pointer (some ⟨g,off,none⟩)) (hi:rs[i]?=some (g,cs)) (ht:Aq P ty 3) (h0:cs[off]?=some u0) (h1:cs[off+1]?=some u1) (h2:cs[off+2]?=some u2) :
  (execOp a.eval o).run P w=.ok (.value (.agg #[u0,u1,u2])) w :=
 ldn i hm ho hx [u0,u1,u2] hi (fun j u hj=>by
  match j,hj with
 |0,hj=>simp at hj;subst hj;exact h0
 |1,hj=>simp at hj;subst hj;exact h1
 |2,hj=>simp at hj;subst hj;exact h2) (by simp) ht
end
def puts (cs:A_):Nat->L_->A_
|_,[]=>cs
|o,v::r=>puts (cs.setIfInBounds o v) (o+1) r
theorem Zb:∀ (vs:L_) (cs:A_) (o i:Nat),(puts cs o vs)[i]?=if i < cs.size/\o<=i/\i < o+vs.length then vs[i - o]? else cs[i]?
|[],cs,o,i=>by rw [puts,if_neg (by rw [List.length_nil];omega)]
|v::vs,cs,o,i=>by
  rw [puts,Zb vs];simp only [Array.size_setIfInBounds,List.length_cons];by_cases h1:i < cs.size/\o+1<=i/\i < o+1+vs.length
  ·exact xed
  ·rw [if_neg h1];by_cases h2:i=o
   ·subst h2;by_cases h3:i < cs.size
    ·rw [if_pos (by omega),Nat.sub_self,List.getElem?_cons_zero,Array.getElem?_setIfInBounds_self_of_lt h3]
    ·rw [if_neg (by omega),Array.getElem?_setIfInBounds];simp [h3,Array.getElem?_eq_none (Nat.le_of_not_lt h3)]
   ·exact xfa
theorem Qg (cs:A_) (o:Nat) (vs:L_) (h:o+vs.length<=cs.size):splice cs o vs.toArray=puts cs o vs:=by
 apply Array.ext_getElem?;intro i;rw [Zb,splice];simp only [List.getElem?_toArray,List.size_toArray];by_cases h1:i < cs.size/\o<=i/\i < o+vs.length
 ·rw [if_pos h1,l_a,List.getElem?_append_right (by simp;omega),List.getElem?_append_left (by simp;omega)]
  congr 1;simp;omega
 ·rw [if_neg h1];by_cases h2:i < o
  ·rw [l_a,List.getElem?_append_left (by simp;omega),List.getElem?_take_of_lt h2];simp
  ·by_cases h3:i < cs.size
   ·rw [List.getElem?_append_right (by simp;omega),List.getElem?_drop];simp;congr 1;omega
   ·rw [List.getElem?_eq_none (by simp;omega),Array.getElem?_eq_none (by omega)]
section
variable {P:Program} {w0 w:World} {rs:Rws} {ss:List Sl} {o:Oper} {a:Act} {K:Value->World->Prop}
theorem A0l (i:Nat) (hm:Own w0 w rs ss) (ho:o.op=.store ty x y) (hx:a.eval x=.pointer (some ⟨g,off,none⟩)) {vs:L_} (hy:a.eval y=.agg vs.toArray)
  (hi:rs[i]?=some (g,cs)) (ht:Aq P ty vs.length) (hf:off+vs.length<=cs.size) (h1:vs.all Value.oneCell'=true)
  (h:∀ w',Own w0 w' (rs.set i (g,puts cs off vs)) ss->K undef w'):Eff P o a w K :=
 Aj i hm ho hx hy hi (by simpa using ht) (by simpa using hf) (Dp h1) (Qg cs off vs hf) h
end
variable {a:Act} {cs:A_} {Q:Exit->P_} {l:Q_} {ss:List Sl} {g id:Nat} {P:Program} {rs:Rws} {w w0:World}
def But (w0:World) (g:Nat) (rs:Rws) (ss:List Sl) (W:World):Prop:=∃ cs,Own w0 W ((g,cs)::rs) ss
theorem But.mk {W:World} (h:Own w0 W ((g,cs)::rs) ss):But w0 g rs ss W:=⟨cs,h⟩
theorem But.own {W:World} (h:But w0 g rs ss W):Own w0 W rs ss:=by
 obtain ⟨cs,h⟩:=h;exact h.dropRow
theorem BQ (hO:Own w0 w ((g,cs)::rs) ss) (k:Nat) (t:KT) (hm:P.follows .mixedOrders=true) (hs:Region.noSelect l.toArray=true) (hlen:t.depth=l.toArray.size)
  (hB:(!(Array.replicate l.toArray.size false).getD k false && okK l.toArray k (Qv l.toArray k) (Array.replicate l.toArray.size false) t)=true) (hQ:∀ c a d v w,Q (.panic c) (a.put d v) w->Q (.panic c) a w)
  (h:∀ w',Own w0 w' ((g,cs)::rs) ss->wpK P l.toArray Q t (But w0 g rs ss) a w'):(Code.region id l.toArray true).wp P Q a w :=
 Kv k t _ hm hs hlen hB hQ ⟨_,hO.drawn _⟩ (h _ (hO.drawn _))
variable {b:Act} {cs ns:A_} {F:Exit->P_} {t:KT} {l:Q_} {f g i id off:Nat} {o:Oper} {S:World->Prop}
section
variable {P:Program} {ops:O_} {Q:Exit->P_} {a:Act} {w w0:World} {rs:Rws} {ss:List Sl} {rest:Q_} {x y:Operand} {dst:Option Nat} {ty:TypeId} {pos:String} {af:Array Edge} {gd:Option (Nat × Bool)}
abbrev RB (w:World) (v:Value) (x:Ending) (w':World):Prop:=x=.returned v/\Below w.heap.size w w'
theorem cB {us:A_} {F:Ending->World->Prop} {v:Value} (h:Calls P f us w (RB w v)) (hm:Own w0 w rs ss) (k:∀ w',Own w0 w' rs ss->F (.returned v) w'):Calls P f us w F:=h.mono fun x w' ⟨e,hb⟩=>by subst e;exact k w' (hm.call hb)
theorem kq {v:Value} (h:wpK P ops Q t S b w) (ho:ops.toList[i]?=some o:=by rfl) (hw:Region.wanted o (yielded ops a.tmps)=true:=by rfl)
  (hrun:∀ W,(execOp a.eval o).run P W=.ok (.value v) W:=by intro W;go_simp;rfl) (hb:a.put o.dst v=b:=by (try simp only [Act.put,s3]);rfl):wpK P ops Q (.rp i t) S a w:=K_p ho hw hrun (hb ▸ h)
theorem km {v:Value} (hrun:∀ W,S W->(execOp a.eval o).run P W=.ok (.value v) W) (h:wpK P ops Q t S b w) (ho:ops.toList[i]?=some o:=by rfl) (hw:Region.wanted o (yielded ops a.tmps)=true:=by rfl)
  (hb:a.put o.dst v=b:=by (try simp only [Act.put,s3]);rfl):wpK P ops Q (.rm i t) S a w:=K_m ho hw hrun (hb ▸ h)
theorem wl (t:TypeId) (i:Nat) (hm:Own w0 w rs ss) {v:Value} (h:wpList P ops Q rest (a.put dst v) w) (hg:Region.wanted ⟨dst,.load t x,ty,pos,af,gd⟩ (yielded ops a.tmps)=true:=by with_unfolding_all exact rfl) (hx:a.eval x=.pointer (some ⟨g,off,none⟩):=by with_unfolding_all exact rfl) (hi:rs[i]?=some (g,cs):=by with_unfolding_all exact rfl) (ht:ET P t:=by with_unfolding_all exact ot rfl) (hv:cs[off]?=some v:=by with_unfolding_all exact rfl):wpList P ops Q (⟨dst,.load t x,ty,pos,af,gd⟩::rest) a w:=A8 hg (ld i hm rfl hx hi ht hv) h
theorem wla (t:TypeId) (i:Nat) (hm:Own w0 w rs ss) (h:wpList P ops Q rest (a.put dst (.agg cs)) w) (hg:Region.wanted ⟨dst,.load t x,ty,pos,af,gd⟩ (yielded ops a.tmps)=true:=by with_unfolding_all exact rfl) (hx:a.eval x=.pointer (some ⟨g,0,none⟩):=by with_unfolding_all exact rfl) (hi:rs[i]?=some (g,cs):=by with_unfolding_all exact rfl) (ht:Aq P t cs.size:=by with_unfolding_all exact ag rfl):wpList P ops Q (⟨dst,.load t x,ty,pos,af,gd⟩::rest) a w:=A8 hg (lda i hm rfl hx hi ht) h
theorem wa (t:TypeId) (hm:Own w0 w rs ss) (hz:∀ w,(zeroValue t).run P w=.ok (.agg cs) w) (h:∀ w' g,Own w0 w' ((g,cs)::rs) ss->wpList P ops Q rest (a.put dst (.pointer (some ⟨g,0,none⟩))) w') (hg:Region.wanted ⟨dst,.alloc t,ty,pos,af,gd⟩ (yielded ops a.tmps)=true:=by with_unfolding_all exact rfl):wpList P ops Q (⟨dst,.alloc t,ty,pos,af,gd⟩::rest) a w:=Ad hg (Dl hm rfl hz h)
theorem wb (hm:Own w0 w rs ss) {t:TypeId} (h:∀ w' g,Own w0 w' ((g,cs)::rs) ss->wpList P ops Q rest (a.put dst (.pointer (some ⟨g,0,none⟩))) w') (hg:Region.wanted ⟨dst,.box t x,ty,pos,af,gd⟩ (yielded ops a.tmps)=true:=by with_unfolding_all exact rfl) (hx:a.eval x=.agg cs:=by with_unfolding_all exact rfl):wpList P ops Q (⟨dst,.box t x,ty,pos,af,gd⟩::rest) a w:=Ad hg (A0m hm rfl hx h)
theorem ws (t:TypeId) (i:Nat) (hm:Own w0 w rs ss) {us:A_} {R:Rws} (h:∀ w',Own w0 w' R ss->wpList P ops Q rest (a.put dst undef) w') (hg:Region.wanted ⟨dst,.store t x y,ty,pos,af,gd⟩ (yielded ops a.tmps)=true:=by with_unfolding_all exact rfl) (hx:a.eval x=.pointer (some ⟨g,0,none⟩):=by with_unfolding_all exact rfl) (hy:a.eval y=.agg us:=by with_unfolding_all exact (Ac rfl)) (hi:rs[i]?=some (g,cs):=by with_unfolding_all exact rfl) (ht:Aq P t us.size:=by with_unfolding_all exact ag rfl) (hs:us.size=cs.size:=by with_unfolding_all exact rfl) (h1:∀ v ∈ us,v.oneCell'=true:=by with_unfolding_all exact Dp rfl) (hR:rs.set i (g,us)=R:=by (try simp only [puts,s2,List.set,List.eraseIdx,s3]);rfl):wpList P ops Q (⟨dst,.store t x y,ty,pos,af,gd⟩::rest) a w:=Ad hg (Aw i hm rfl hx hy hi ht hs h1 (hR ▸ h))
theorem wu (t:TypeId) (i:Nat) (hm:Own w0 w rs ss) {us:L_} {R:Rws} (h:∀ w',Own w0 w' R ss->wpList P ops Q rest (a.put dst undef) w') (hg:Region.wanted ⟨dst,.store t x y,ty,pos,af,gd⟩ (yielded ops a.tmps)=true:=by with_unfolding_all exact rfl) (hx:a.eval x=.pointer (some ⟨g,off,none⟩):=by with_unfolding_all exact rfl) (hy:a.eval y=.agg us.toArray:=by with_unfolding_all exact (Ac rfl)) (hi:rs[i]?=some (g,cs):=by with_unfolding_all exact rfl) (ht:Aq P t us.length:=by with_unfolding_all exact ag rfl) (hf:off+us.length<=cs.size:=by simp) (h1:us.all Value.oneCell'=true:=by with_unfolding_all exact rfl) (hR:rs.set i (g,puts cs off us)=R:=by (try simp only [puts,s2,List.set,List.eraseIdx,s3]);rfl):wpList P ops Q (⟨dst,.store t x y,ty,pos,af,gd⟩::rest) a w:=Ad hg (A0l i hm rfl hx hy hi ht hf h1 (hR ▸ h))
theorem wc (t:TypeId) (i:Nat) (hm:Own w0 w rs ss) {v:Value} {R:Rws} (h:∀ w',Own w0 w' R ss->wpList P ops Q rest (a.put dst undef) w') (hg:Region.wanted ⟨dst,.store t x y,ty,pos,af,gd⟩ (yielded ops a.tmps)=true:=by with_unfolding_all exact rfl) (hx:a.eval x=.pointer (some ⟨g,off,none⟩):=by with_unfolding_all exact rfl) (hy:a.eval y=v:=by with_unfolding_all exact (Ac rfl)) (hi:rs[i]?=some (g,cs):=by with_unfolding_all exact rfl) (ht:ET P t:=by with_unfolding_all exact ot rfl) (hf:off < cs.size:=by simp) (hc:v.cells=#[v]:=by with_unfolding_all exact rfl) (h1:v.oneCell'=true:=by with_unfolding_all exact rfl) (hn:cs.setIfInBounds off v=ns:=by with_unfolding_all exact rfl) (hR:rs.set i (g,ns)=R:=by (try simp only [puts,s2,List.set,List.eraseIdx,s3]);rfl):wpList P ops Q (⟨dst,.store t x y,ty,pos,af,gd⟩::rest) a w:=Ad hg (AZ i hm rfl hx hy hi ht hf hc h1 hn (hR ▸ h))
theorem rO (hO:Own w0 w rs ss) (k:Nat) (t:KT) (h:∀ w',Own w0 w' rs ss->wpK prog l.toArray F t (fun W=>Own w0 W rs ss) a w') (hm:prog.follows .mixedOrders=true:=by rfl) (hs:Region.noSelect l.toArray=true:=by kernel_rfl) (hlen:t.depth=l.toArray.size:=by rfl)
  (hB:(!(Array.replicate l.toArray.size false).getD k false && okK l.toArray k (Qv l.toArray k) (Array.replicate l.toArray.size false) t)=true:=by kernel_rfl) (hQ:∀ c a d v w,F (.panic c) (a.put d v) w->F (.panic c) a w:=by (intro _ _ d _ _ h;cases d<;>exact h)):(Code.region id l.toArray true).wp prog F a w:=NP hO k t hm hs hlen hB hQ h
end
section
variable {G:Prop}
theorem xic (h:G:=by
 by_cases he:e=0
 ·subst he;have HR:Hid (Dt L 0 0 (dNew m) l [] 0=if fin=true then .ok (out++T,k+1) else Dt L q2 i2 d1 (l.drop (k+1)) (out++T) (k+1)):=h_ (by rw [hR];simp);obtain ⟨hd1,hd2,hd3⟩:=HD.out rfl;simp only at hd1 hd2 hd3;have HD3:=h_ hd3;clear hR HD hd3
  go_upto_region 10 with (first
   |(with_reducible first|(refine wla 143 0 hm ?_ (ht:=c_z (DT HL.out)))|(refine ws 143 2 hm ?_ (ht:=c_z (DT HL.out)) (hs:=c_z (Dn HL.out HL.out)) (h1:=c_z (Eb _ _ _));clear hm;intro w hm))
   |(go_at_call 130;have _t:=hm;refine (CE.out _).mono ?_;clear _t;rintro x w1 ⟨⟨v2,rfl,hs⟩,hb⟩;obtain ⟨ad2,cc2,rfl⟩:=hs.shape;obtain ⟨Y,hY,hm'⟩:=hm.Ox hb hs;clear hm hs hb;have hm:=hm'.zh;clear hm';have HY:=h_ hY;clear hY)
   |(with_reducible first|(refine wa 147 hm Dc ?_;clear hm;intro w g15 hm)|(refine wla 147 1 hm ?_ (ht:=c_z (BJ HV.out.len)))|(refine ws 147 0 hm ?_ (ht:=c_z (BJ HV2.out.len)) (hs:=c_z (BR HV2.out.len BF)) (h1:=c_z (A35 _));clear hm;intro w hm)))
  refine A8U (S:=fun W=>AA W g15 (V d1)) hm (fun W h=>h.row 0 rfl) 4 (.rds [(0,true),(1,false),(2,false)] (.one 3 (.brk 4 6 (.rds [(5,false)] .done)))) rfl (by kernel_rfl) rfl (by kernel_rfl) (fun _ _ d _ _ h=>by cases d<;>exact h) ?_;clear hm;intro w hm;simp only [KT.rds];refine km (fun W hm=>Du rfl rfl hm (BJ HV2.out.len)) ?_
  iterate 2 refine kq ?_
  refine Bo rfl rfl (GR (A:=[_,_,_,_,_]) (X:=X) hm rfl HEM.out (Ac rfl) HX.out (Ac rfl) (fun W h=>HY.out.A1s h) (Ic _ _) (by omega) (by omega) (by omega) ?_);clear hm;intro X2 v3 w hX2 hm;simp only [s2] at hm;obtain ⟨ad4,c4,rfl⟩:=hX2.shape;have HX2:=h_ hX2;clear hX2;refine ⟨fun W=>AA W g15 (V d1),fun W h=>h,hm.row 0 rfl,?_⟩
  try simp only [Act.put,s3]
  (refine Em rfl rfl (Aw 2 hm rfl rfl (Ac rfl) rfl (BJ HV2.out.len) (BR HV2.out.len HV.out.len) (A35 _) ?_))
  clear hm;intro w hm
  try simp only [puts,s2,List.set,List.eraseIdx,s3] at hm
  refine ⟨fun W=>Own _ W _ _,hm,?_⟩
  try simp only [Act.put,s3]
  refine kq ?_;refine Ba ?_;go_simp;have HXX:Hid (Lies 1 X2 (.slice ad4 (out.length+T.length) c4) (out++T).length (vs .u8 (out++T))):=h_ (by rw [P7,List.length_append];exact HX2.out);cases fin with
 |true =>
   have HR2:Hid (Dt L 0 0 (dNew m) l [] 0=.ok (out++T,k+1)):=h_ (by rw [HR.out,if_pos rfl]);clear HR;go_wp2;refine b_r (results_tmp3 rfl _ _ _) rfl ?_;rw [HR2.out];exact ⟨X2,_,rfl,HXX.out,hm.sub (Y9 X2 Y E rs) (List.Sublist.refl _)⟩
 |false =>
   have HR2:Hid (Dt L 0 0 (dNew m) l [] 0=Dt L q2 i2 d1 (l.drop (k+1)) (out++T) (k+1)):=h_ (by rw [HR.out,if_neg (by simp)]);clear HR;go_wp2;go_roundw
   case rel=>exact ⟨k+1,q2,i2,d1,out++T,X2,Y++E,by omega,by go_num,HP2.out,HV2.out,by rw [List.length_append];push_cast;omega,hd2,HXX.out,HR2.out,by rw [l_a];exact hm.dropRow.dropRow⟩
   case measure=>simp [intOf];omega
 ·have HR:Hid (Dt L 0 0 (dNew m) l [] 0=.error e):=h_ (by rw [hR];simp [he]);have q1:(e != 0)=true:=by simpa using he
  have HE0:=h_ he;clear hR he
  go_wp2_with (first
   |(with_reducible first|(refine wla 143 0 hm ?_ (ht:=c_z (DT HL.out)))|(refine ws 143 2 hm ?_ (ht:=c_z (DT HL.out)) (hs:=c_z (Dn HL.out HL.out)) (h1:=c_z (Eb _ _ _));clear hm;intro w hm))
   |(go_at_call 130;have _t:=hm;refine (CE.out _).mono ?_;clear _t;rintro x w1 ⟨⟨v2,rfl,hs⟩,hb⟩;obtain ⟨ad2,cc2,rfl⟩:=hs.shape;obtain ⟨Y,hY,hm'⟩:=hm.Ox hb hs;clear hm hs hb;have hm:=hm'.zh;clear hm';have HY:=h_ hY;clear hY)
   |(with_reducible first|(refine wa 147 hm Dc ?_;clear hm;intro w g15 hm)|(refine wla 147 1 hm ?_ (ht:=c_z (BJ HV.out.len)))|(refine ws 147 0 hm ?_ (ht:=c_z (BJ HV2.out.len)) (hs:=c_z (BR HV2.out.len BF)) (h1:=c_z (A35 _));clear hm;intro w hm)))
  try rw [Exit.noGoto_ret]
  refine b_r (results_tmp3 rfl _ _ _) rfl ?_;rw [HR.out];exact ⟨HE0.out,rfl,hm.sub (V9 X Y E rs) (List.Sublist.refl _)⟩):G:=h
theorem xai (h:G:=by
 have HATW:Hid (∀ (row told st:Int),(WK (.pointer (some ⟨ga,0,none⟩)) a n b m index d (tab 256 (lsn (Jp l a n))) row told st)[7+c]?=some (.int .i64 (lsn (Jp l a n) c))):=h_ fun row told st=>by rw [A4c (by rw [Lm]) c hc1,A2n _ hc1]
 obtain ⟨q,hq⟩:∃ q:Nat,q=p % d:=⟨_,rfl⟩;rw [<- hq] at CR b4 ⊢;have w3:IntKind.i64.wrap (1+(q:Int))=1+(q:Int):=i_6;have w4:IntKind.i64.wrap (st+(1+(q:Int)))=st+(1+(q:Int)):=i_6;rw [A33] at hm ⊢;clear hS lim hq;generalize hZ1:lsn (Jp l a n) c=z1 at *;generalize eqn ((Jp l a n).take p) c=z2 at *;generalize tab 256 (lsn (Jp l a n))=less at *;go_enter func74,ntmps74
 go_upto_region 6 with (first
  |(with_reducible refine wl 3 0 hm ?_ (hv:=c_z A3j)))
 refine rO hm 9 (.rds [(0,false),(1,false),(2,false),(3,true),(4,false),(5,false),(6,false),(7,true),(8,false)] (.brk 9 15 (.rds [(10,false),(11,false),(12,false),(13,false),(14,false)] .done))) ?_;clear hm;intro w hm;simp only [KT.rds]
 iterate 3 refine kq ?_
 refine km (fun W hm=>ld 0 hm rfl rfl rfl (ot rfl) (A3E)) ?_
 iterate 3 refine kq ?_
 refine km (fun W hm=>ldp 0 hm rfl rfl rfl A4v (Eo _ _) (A3R HLL.out)) ?_;refine kq ?_;refine PO rfl rfl (fun K hK=>?_);go_simp;refine (CB.out _ (hm.row 1 rfl) (hm.row 2 rfl)).mono ?_;rintro e w1 ⟨rfl,hb⟩;replace hm:=hm.call hb;clear hb;refine hK _ _ ⟨fun W=>Own _ W _ _,hm,?_⟩;clear hK K
 try simp only [Act.put,s3]
 iterate 5 refine kq ?_
 refine Ba ?_;go_simp
 go_upto_region 7 with fail
 refine rO hm 18 (.rds [(0,false),(1,false),(2,false),(3,true),(4,false),(5,false),(6,false),(7,true),(8,false),(9,false),(10,false),(11,true),(12,false),(13,false),(14,false),(15,true),(16,false),(17,false)] (.brk 18 26 (.rds [(19,false),(20,false),(21,false),(22,false),(23,false),(24,false),(25,false)] .done))) ?_;clear hm;intro w hm;simp only [KT.rds]
 iterate 3 refine kq ?_
 refine km (fun W hm=>ld 0 hm rfl rfl rfl (ot rfl) (A3E)) ?_
 iterate 3 refine kq ?_
 refine km (fun W hm=>ldp 0 hm rfl rfl rfl A4v (Eo _ _) (A3R HLL.out)) ?_
 iterate 3 refine kq ?_
 refine km (fun W hm=>ldp 0 hm rfl rfl rfl A6z (Eo _ _) (A5z HLL.out)) ?_
 iterate 3 refine kq ?_
 refine km (fun W hm=>ld 0 hm rfl rfl rfl (ot rfl) (A4T)) ?_
 iterate 2 refine kq ?_
 refine PO rfl rfl (fun K hK=>?_);go_simp;refine (CR.out _ (hm.row 1 rfl) (hm.row 2 rfl)).mono ?_;rintro e w1 ⟨rfl,hb⟩;replace hm:=hm.call hb;clear hb;refine hK _ _ ⟨fun W=>Own _ W _ _,hm,?_⟩;clear hK K
 try simp only [Act.put,s3]
 iterate 7 refine kq ?_
 refine Ba ?_;go_simp
 go_wp2_with (first
  |(with_reducible refine wl 3 0 hm ?_ (hv:=(by with_unfolding_all (first|exact (A4a HLL.out)|exact (HATW.out _ _ _)))))
  |(with_reducible refine wc 3 0 hm ?_ (hf:=c_z (A4S HLL.out)) (hn:=c_z (A4o HLL.out _));clear hm;intro w hm))
 exact xf4):G:=h
theorem xar (h:G:=by
 clear HR hok ht;simp only [MR.val] at CN
 go_upto_region 11 with (first
  |(with_reducible refine wa 88 hm FM ?_;clear hm;intro w g9 hm)
  |(go_at_call 101;refine cB (CN.out _) hm ?_;clear hm;intro w1 hm)
  |(with_reducible refine gIa (t:=22) ?_;(refine A8 rfl (Am rfl HE.out rfl rfl rfl hlt) ?_))
  |(with_reducible refine gLd (t:=5) ?_;(refine A8 rfl (AU rfl rfl FV (HA.out _ _ hm)) ?_))
  |(with_reducible refine wla 88 0 hm ?_)
  |(with_reducible (first|refine ws 88 0 hm ?_|refine ws 88 1 hm ?_);clear hm;intro w hm)
   )
 refine rO hm 6 (.rds [(0,true),(1,false),(2,false),(3,false),(4,false)] (.one 5 (.brk 6 9 (.rds [(7,false),(8,false)] .done)))) ?_;clear hm;intro w hm;simp only [KT.rds];refine km (fun W hm=>lda 1 hm rfl rfl rfl (Gt _ _ _ _ _ _ _)) ?_
 iterate 2 refine kq ?_
 (refine K_p rfl rfl (fun W=>by go_simp;((rw [IntWalk.i64_in _ (by omega)];done))) ?_)
 try simp only [Act.put,s3]
 (refine K_p rfl rfl (fun W=>A2Y (l:=k+1) (h:=l.length) rfl HE.out rfl (.inr ⟨_,rfl⟩) (.inl ⟨rfl,rfl⟩) hk1 hlc) ?_)
 try simp only [Act.put,s3]
 refine DJ rfl rfl (fun K hK=>?_);go_simp;refine (CC.out _ _ _ hm).mono ?_;rintro e w1 ⟨X,v2,rfl,hX,hm⟩;refine hK _ _ ⟨fun W=>Own _ W _ _,fun _ h=>h.A1t,hm,?_⟩;clear hK K
 (refine Em rfl rfl (Aw 1 hm rfl rfl (Ac rfl) rfl (Gt _ _ _ _ _ _ _) (Na _ _ _ _ _ _ _ _ _ _ _ _ _ _ ) (EH _ _ _ _ _ _ _) ?_))
 clear hm;intro w hm
 try simp only [puts,s2,List.set,List.eraseIdx,s3] at hm
 refine ⟨fun W=>Own _ W _ _,hm,?_⟩
 try simp only [Act.put,s3]
 iterate 2 refine kq ?_
 refine Ba ?_;go_simp;go_wp2;refine b_r (Ae rfl rfl (hm.row 1 rfl) (Gt _ _ _ _ _ _ _)) rfl ?_;rw [HN.out];exact ⟨X,v2,rfl,hX,hm.dropRow.dropRow⟩):G:=h
theorem xbb (h:G:=by
 clear n1 ap fit four lim big byt hal i1;go_enter func67,ntmps67
 go_upto_region 5 with (first
  |(with_reducible refine wl 3 0 hm ?_ (hv:=c_z A3g)))
 refine rO hm 9 (.rds [(0,false),(1,false),(2,false),(3,true),(4,false),(5,false),(6,false),(7,true),(8,false)] (.brk 9 14 (.rds [(10,false),(11,false),(12,false),(13,false)] .done))) ?_;clear hm;intro w hm;simp only [KT.rds]
 iterate 3 refine kq ?_
 refine km (fun W hm=>ld 0 hm rfl rfl rfl (ot rfl) A3F) ?_
 iterate 3 refine kq ?_
 refine km (fun W hm=>ldp 0 hm rfl rfl rfl A6C (Eo _ _) A5B) ?_;refine kq ?_;refine PO rfl rfl (fun K hK=>?_);go_simp;refine (CB.out _ (hm.row 1 rfl) (hm.row 2 rfl)).mono ?_;rintro e w1 ⟨rfl,hb⟩;replace hm:=hm.call hb;clear hb;refine hK _ _ ⟨fun W=>Own _ W _ _,hm,?_⟩;clear hK K
 try simp only [Act.put,s3]
 iterate 4 refine kq ?_
 refine Ba ?_;go_simp;go_wp2
 go_ret2
 exact ⟨rfl,hm⟩):G:=h
theorem xfk (h:G:=by
 clear s1;go_enter func101,ntmps101;have hm:=Own.nil w
 go_upto_region 8 with (first
  |(with_reducible refine gMm ?_;(refine Ad rfl (BD hm rfl ?_);clear hm;intro w r hm hd))
  |(with_reducible refine gIn ?_;(refine Ad rfl (Bj hm hd rfl (Ac rfl) BP E5 underlying210 kd3 (EY (by decide)) (BA rfl) (EU rfl) ?_);clear hm;intro w hm))
  |(with_reducible refine gBo (t:=211) ?_;(refine A8 rfl (BH rfl (Ac rfl) BP) ?_))
  |(with_reducible refine gLk ?_;(refine A8 rfl (Ez (v:=.func (.func 141) #[] #[]) 0 hm rfl (Ac rfl) (Ac rfl) rfl underlying210 kd3 (EY (by decide)) (BA rfl) (Bh rfl rfl).1 (Bh rfl rfl).2) ?_))
  |(go_at_call 142;refine cB (CV.out _) hm ?_;clear hm;intro w1 hm)
  |(go_at_call 141;refine cB (CM.out _) hm ?_;clear hm;intro w1 hm)
  |(with_reducible first|(refine wl 3 1 hm ?_)|(refine wla 88 1 hm ?_)|(refine wu 88 1 hm ?_;clear hm;intro w hm)|(refine wa 88 hm H9 ?_;clear hm;intro w g hm)|(refine wb hm ?_;clear hm;intro w g hm)))
 exact xac):G:=h
theorem xfl (h:G:=by
 clear hv hd ho;generalize D5 V M c=x at *;generalize EM M c=y at *;go_enter func101,ntmps101;have hm:=Own.nil w
 go_upto_region 8 with (first
  |(with_reducible refine gMm ?_;(refine Ad rfl (BD hm rfl ?_);clear hm;intro w r hm hd))
  |(with_reducible refine gIn ?_;(refine Ad rfl (Bj hm hd rfl (Ac rfl) BP E5 underlying210 kd3 (EY (by decide)) (BA rfl) (EU rfl) ?_);clear hm;intro w hm))
  |(with_reducible refine gBo (t:=211) ?_;(refine A8 rfl (BH rfl (Ac rfl) BP) ?_))
  |(with_reducible refine gLk ?_;(refine A8 rfl (Ez (v:=.func (.func 139) #[] #[]) 0 hm rfl (Ac rfl) (Ac rfl) rfl underlying210 kd3 (EY (by decide)) (BA rfl) (Bh rfl rfl).1 (Bh rfl rfl).2) ?_))
  |(go_at_call 142;refine cB (CV.out _) hm ?_;clear hm;intro w1 hm)
  |(go_at_call 139;refine cB (CM.out _) hm ?_;clear hm;intro w1 hm)
  |(with_reducible first|(refine wl 3 1 hm ?_)|(refine wla 88 1 hm ?_)|(refine wu 88 1 hm ?_;clear hm;intro w hm)|(refine wa 88 hm H9 ?_;clear hm;intro w g hm)|(refine wb hm ?_;clear hm;intro w g hm)))
 exact xac):G:=h
theorem xfm (h:G:=by
 clear hv hd ho;generalize D5 V M c=x at *;generalize EM M c=y at *;go_enter func101,ntmps101;have hm:=Own.nil w
 go_upto_region 8 with (first
  |(with_reducible refine gMm ?_;(refine Ad rfl (BD hm rfl ?_);clear hm;intro w r hm hd))
  |(with_reducible refine gIn ?_;(refine Ad rfl (Bj hm hd rfl (Ac rfl) BP E5 underlying210 kd3 (EY (by decide)) (BA rfl) (EU rfl) ?_);clear hm;intro w hm))
  |(with_reducible refine gBo (t:=211) ?_;(refine A8 rfl (BH rfl (Ac rfl) BP) ?_))
  |(with_reducible refine gLk ?_;(refine A8 rfl (Ez (v:=.func (.func 140) #[] #[]) 0 hm rfl (Ac rfl) (Ac rfl) rfl underlying210 kd3 (EY (by decide)) (BA rfl) (Bh rfl rfl).1 (Bh rfl rfl).2) ?_))
  |(go_at_call 142;refine cB (CV.out _) hm ?_;clear hm;intro w1 hm)
  |(go_at_call 140;refine cB (CM.out _) hm ?_;clear hm;intro w1 hm)
  |(with_reducible first|(refine wl 3 1 hm ?_)|(refine wla 88 1 hm ?_)|(refine wu 88 1 hm ?_;clear hm;intro w hm)|(refine wa 88 hm H9 ?_;clear hm;intro w g hm)|(refine wb hm ?_;clear hm;intro w g hm)))
 exact xac):G:=h
theorem xfn (h:G:=by
 go_enter func101,ntmps101;have hm:=Own.nil w
 go_upto_region 8 with (first
  |(with_reducible refine gMm ?_;(refine Ad rfl (BD hm rfl ?_);clear hm;intro w r hm hd))
  |(with_reducible refine gIn ?_;(refine Ad rfl (Bj hm hd rfl (Ac rfl) BP E5 underlying210 kd3 (EY (by decide)) (BA rfl) (EU rfl) ?_);clear hm;intro w hm))
  |(with_reducible refine gBo (t:=211) ?_;(refine A8 rfl (BH rfl (Ac rfl) BP) ?_))
  |(with_reducible refine gLk ?_;(refine A8 rfl (Ez (v:=.func (.func 138) #[] #[]) 0 hm rfl (Ac rfl) (Ac rfl) rfl underlying210 kd3 (EY (by decide)) (BA rfl) (Bh rfl rfl).1 (Bh rfl rfl).2) ?_))
  |(go_at_call 142;refine cB (CV.out _) hm ?_;clear hm;intro w1 hm)
  |(go_at_call 138;refine cB (CM.out _) hm ?_;clear hm;intro w1 hm)
  |(with_reducible first|(refine wl 3 1 hm ?_)|(refine wla 88 1 hm ?_)|(refine wu 88 1 hm ?_;clear hm;intro w hm)|(refine wa 88 hm H9 ?_;clear hm;intro w g hm)|(refine wb hm ?_;clear hm;intro w g hm)))
 exact xac):G:=h
end
section
variable {P M M2 S:L_} {off i n:Nat} {v:Value}
theorem UL (hP:P.length=off) (hv:M[i]?=some v):(P++(M++S)).toArray[off+i]?=some v:=by
 subst hP;have hi:=(List.getElem?_eq_some_iff.1 hv).1;rw [List.getElem?_toArray,List.getElem?_append_right (by omega),Nat.add_sub_cancel_left,List.getElem?_append_left hi,hv]
theorem Y1 (hP:P.length=off) (hi:i < M.length) (v:Value):(P++(M++S)).toArray.setIfInBounds (off+i) v=(P++(M.set i v++S)).toArray:=by
 subst hP;apply Array.ext';simp only [List.setIfInBounds_toArray];rw [List.set_append_right _ _ (by omega),Nat.add_sub_cancel_left,List.set_append_left _ _ hi]
theorem Xl (hP:P.length=off) (hn:M.length=n):(P++(M++S)).toArray.extract off (off+n)=M.toArray:=by
 subst hP hn;apply Array.ext';simp
theorem bn (hP:P.length=off) (hm:M.length=M2.length):splice (P++(M++S)).toArray off M2.toArray=(P++(M2++S)).toArray:=by
 subst hP;apply Array.ext'
 have e:(P++(M++S)).drop (P.length+M2.length)=S:=by
  rw [<- hm,<- List.drop_drop,List.drop_left,List.drop_left]
 simp [splice,<- hm]
end
variable {m n:Int} {c l:I_}
theorem xW:Aq prog 139 258:=Aq.mk' underlying139 rfl (by kernel_rfl)
theorem F5 (h:l.length=258):Aq prog 139 (J .u8 l).size:=by rw [Df,h];exact xW
def share (n:Int):Int:=if n=0 then 0 else if 15 < n then 32769 else 32768 / 2 ^ n.toNat
theorem KE (n:Int):0<=share n/\share n<=32769:=by
 rw [share];split
 ·omega
 ·split
  ·omega
  ·have h1:(0:Int) < 2 ^ n.toNat:=by exact Int.pow_pos (by decide)
   refine ⟨Int.ediv_nonneg (by decide) (by omega),?_⟩;have:=Int.ediv_le_self (2 ^ n.toNat) (show (0:Int)<=32768 by decide);omega
theorem lq (n:Int) (w:World) (h0:0<=n):Calls prog 277 #[.int .u8 n] w fun e w'=>(e=.returned (.int .i64 (share n)))/\w'=w:=by
 rw [share];by_cases h1:n=0
 ·subst h1;rw [if_pos rfl];exact xhy
 have q1:(n == 0)=false:=by simpa using h1
 rw [if_neg h1];by_cases h2:15 < n
 ·have q2:decide (15 < n)=true:=decide_eq_true h2;rw [if_pos h2];exact xhy
 ·have q2:decide (15 < n)=false:=decide_eq_false h2;rw [if_neg h2];exact xhy
def J6 (l:I_) (k:Nat):Int:=((l.take k).map share).sum
theorem Pq (l:I_) (k:Nat) (h:k < l.length):J6 l (k+1)=J6 l k+share (gi l k):=by
 rw [J6,FQ l k h,List.map_append,List.sum_append,J6];simp
theorem Nz (l:I_):∀ k,k<=l.length->0<=J6 l k/\J6 l k<=32769 * k
|0,_=>by simp [J6]
|k+1,h=>by
  have h1:=Nz l k (by omega);have h2:=KE (gi l k);rw [Pq l k h];push_cast;omega
theorem sum_any (l:I_) (w:World) (hl:l.length=258) (hb:Bytes l):Calls prog 249 #[.agg (J .u8 l)] w (RB w (.int .i64 (J6 l 258))):=by
 have HB:=h_ hb;have HL:=h_ hl;clear hb;go_enter func249,ntmps249;have hm:=Own.nil w
 go_wp2_with (first
 |(refine Ar hm rfl rfl rfl ?_;intro w1 g hm1;clear hm)
 |(refine Ag rfl rfl rfl (hm1.row 0 rfl) (F5 hl) ?_))
 clear hl
 go_loopw [2,6] (fun z u wr=>∃ k:Nat,k<=258/\u=.int .i64 k/\z=.int .i64 (J6 l k)/\Own w wr [(g,J .u8 l)] []) (fun _ u _=>258 - (intOf u).toNat)
 case atStart=>exact ⟨0,by omega,rfl,rfl,hm1⟩
 case round =>
  obtain ⟨k,hk,rfl,rfl,hmr⟩:=hrel;clear hm1;by_cases hlt:k < 258
  ·have hg:(J .u8 l)[k]?=some (.int .u8 (gi l k)):=XC .u8 l k (by rw [HL.out];exact hlt);have hS:=Pq l k (by rw [HL.out];exact hlt);have h1:=Nz l k (by rw [HL.out];omega);have h2:=KE (gi l k);have CS:Hid (∀ w,Calls prog 277 #[.int .u8 (gi l k)] w fun e w'=>(e=.returned (.int .i64 (share (gi l k))))/\w'=w):=h_ fun w=>lq _ w (HB.out _ (by rw [BZ l k (by rw [HL.out];exact hlt)];exact List.getElem_mem _)).1;have HS:=h_ hS;have hw:IntKind.i64.wrap (J6 l k+share (gi l k))=J6 l k+share (gi l k):=i_6;clear hS h1 h2;generalize gi l k=x at *;generalize share x=y at *;generalize J6 l k=z at *
   go_wp2_with (first
   |(refine A8 rfl (DZ rfl rfl rfl underlying139 FV hlt hg) ?_)
   |(go_at_call 277;have _t:=hmr;refine (CS.out _).mono ?_;rintro e w2 ⟨rfl,rfl⟩))
   go_roundw
   case rel=>exact ⟨k+1,by omega,by go_num,by rw [HS.out],hmr⟩
   case measure=>simp [intOf];omega
  ·obtain rfl:k=258:=by omega
   go_wp2;go_ret;exact ⟨rfl,hmr.below⟩
theorem Xx (l:I_) (w:World) (hl:l.length=258) (hb:Bytes l):Calls prog 213 #[.agg (J .u8 l)] w (RB w (.bool (J6 l 258 == 32768))):=by
 have CS:=h_ (fun w=>sum_any l w hl hb);generalize J6 l 258=z at *;go_enter func213,ntmps213;have hm:=Own.nil w
 go_wp2_with (first
 |(refine Ar hm rfl rfl rfl ?_;intro w1 g hm1;clear hm)
 |(refine Ag rfl rfl rfl (hm1.row 0 rfl) (F5 hl) ?_)
 |(go_at_call 249;have _t:=hm1;refine (CS.out _).mono ?_;rintro e w2 ⟨rfl,hb2⟩;have hm2:=hm1.call hb2;clear hm1))
 exact xd2
def JL (l:I_):Bool:=(J6 l 258 == 32768) && decide (0 < gi l 257)
theorem table_any (l:I_) (w:World) (hl:l.length=258) (hb:Bytes l):Calls prog 168 #[.agg (J .u8 l)] w (RB w (.bool (JL l))):=by
 have CS:=h_ (fun w=>Xx l w hl hb);have hg:(J .u8 l)[257]?=some (.int .u8 (gi l 257)):=XC .u8 l 257 (by omega);rw [JL];cases hz:(J6 l 258 == 32768) with
|false =>
  rw [hz] at CS;clear hz;go_enter func168,ntmps168;have hm:=Own.nil w
  go_wp2_with (first
  |(refine Ar hm rfl rfl rfl ?_;intro w1 g hm1;clear hm)
  |(refine Ag rfl rfl rfl (hm1.row 0 rfl) (F5 hl) ?_)
  |(go_at_call 213;have _t:=hm1;refine (CS.out _).mono ?_;rintro e w2 ⟨rfl,hb2⟩;have hm2:=hm1.call hb2;clear hm1))
  exact xd2
|true =>
  rw [hz] at CS;clear hz;generalize gi l 257=x at *;go_enter func168,ntmps168;have hm:=Own.nil w
  go_wp2_with (first
  |(refine Ar hm rfl rfl rfl ?_;intro w1 g hm1;clear hm)
  |(refine Ag rfl rfl rfl (hm1.row 0 rfl) (F5 hl) ?_)
  |(go_at_call 213;have _t:=hm1;refine (CS.out _).mono ?_;rintro e w2 ⟨rfl,hb2⟩;have hm2:=hm1.call hb2;clear hm1)
  |(refine A8 rfl (Aa (off:=257) rfl rfl (hm2.row 0 rfl) FV hg) ?_))
  go_ret;exact ⟨by rw [Bool.true_and];rfl,hm2.below⟩
theorem A2M:Aq prog 296 16:=Aq.mk' underlying296 rfl (by kernel_rfl)
def z16:I_:=List.replicate 16 0
theorem gQ (w:World):(zeroValue 296).run prog w=.ok (.agg (J .i64 z16)) w:=by kernel_rfl
theorem A0R (h:l.length=16):Aq prog 296 (J .i64 l).size:=by rw [Df,h];exact A2M
def cnt1 (c:I_) (n:Int):I_:=if n < 16 then c.set n.toNat (gi c n.toNat+1) else c
def Ji (l:I_):I_:=l.foldl cnt1 z16
theorem Pv (l:I_) (k:Nat) (h:k < l.length):Ji (l.take (k+1))=cnt1 (Ji (l.take k)) (gi l k):=by
 rw [FQ l k h,Ji,List.foldl_append];rfl
theorem A0A (h0:0<=n) (hl:c.length=16) (hb:∀ x ∈ c,0<=x/\x<=m):(cnt1 c n).length=16/\∀ x ∈ cnt1 c n,0<=x/\x<=m+1:=by
 rw [cnt1];split
 ·refine ⟨by rw [List.length_set,hl],fun x hx=>?_⟩;rcases List.mem_or_eq_of_mem_set hx with h|rfl
  ·have:=hb x h;omega
  ·have hi:n.toNat < c.length:=by omega
   have:=hb (gi c n.toNat) (by rw [BZ c _ hi];exact List.getElem_mem hi);omega
 ·exact ⟨hl,fun x hx=>by have:=hb x hx;omega⟩
theorem QU (l:I_) (hb:Bytes l):∀ k,k<=l.length->(Ji (l.take k)).length=16/\∀ x ∈ Ji (l.take k),0<=x/\x<=k
|0,_=>by
  refine ⟨rfl,fun x hx=>?_⟩;have:x=0:=by simp [Ji,z16] at hx;exact hx
  omega
|k+1,h=>by
  obtain ⟨h1,h2⟩:=QU l hb k (by omega);rw [Pv l k (by omega)];have hx:=(hb (gi l k) (by rw [BZ l k (by omega)];exact List.getElem_mem _)).1;have:=A0A hx h1 h2;push_cast;exact this
theorem TN (l:I_) (w:World) (hl:l.length=258) (hb:Bytes l):Calls prog 214 #[.agg (J .u8 l)] w (RB w (.agg (J .i64 (Ji l)))):=by
 have HK:=h_ (QU l hb);have HB:=h_ hb;have HL:=h_ hl;have HT:Hid (l.take 258=l):=h_ (List.take_of_length_le (by omega));clear hb;go_enter func214,ntmps214;have hm:=Own.nil w
 go_wp2_with (first
 |(refine Ar hm rfl rfl rfl ?_;intro w1 g hm1;clear hm)
 |(refine AL hm1 rfl rfl gQ ?_;intro w2 g2 hm2;clear hm1)
 |(refine Ag rfl rfl rfl (hm2.row 1 rfl) (F5 hl) ?_))
 clear hl
 go_loopw [6] (fun u wr=>∃ k:Nat,k<=258/\u=.int .i64 k/\Own w wr [(g2,J .i64 (Ji (l.take k))),(g,J .u8 l)] []) (fun u _=>258 - (intOf u).toNat)
 case atStart=>exact ⟨0,by omega,rfl,hm2⟩
 case round =>
  obtain ⟨k,hk,rfl,hmr⟩:=hrel;clear hm2;by_cases hlt:k < 258
  ·have hkl:k < l.length:=by rw [HL.out];exact hlt
   have hg:(J .u8 l)[k]?=some (.int .u8 (gi l k)):=XC .u8 l k hkl;have HS:=h_ (Pv l k hkl);obtain ⟨hc1,hc2⟩:=HK.out k (Nat.le_of_lt hkl);obtain ⟨hx,hx2⟩:=HB.out (gi l k) (by rw [BZ l k hkl];exact List.getElem_mem _);clear hkl;generalize gi l k=x at *;generalize Ji (l.take k)=c at *;by_cases h16:x < 16
   ·obtain ⟨n,rfl⟩:=Int.eq_ofNat_of_zero_le hx;have hn:n < 16:=by omega
    have q1:decide ((n:Int) < 16)=true:=decide_eq_true h16;have hci:(J .i64 c)[n]?=some (.int .i64 (gi c n)):=XC .i64 c n (by omega);have hbd:=hc2 (gi c n) (by rw [BZ c n (by omega)];exact List.getElem_mem _);have hw:IntKind.i64.wrap (gi c n+1)=gi c n+1:=i_6;have hsz:n < (J .i64 c).size:=by rw [Df,hc1];exact hn
    have HC:Hid (cnt1 c n=c.set n (gi c n+1)):=h_ (by rw [cnt1,if_pos h16];rfl);have hst:=Y0 .i64 c n (gi c n+1);clear hbd hc1 hc2;generalize gi c n=y at *
    go_wp2_with (first
    |(refine A8 rfl (DZ rfl rfl rfl underlying139 FV hlt hg) ?_)
    |(refine A8 rfl (Aa (off:=n) rfl rfl (hmr.row 0 rfl) BG hci) ?_)
    |(refine BL (off:=n) (v:=.int .i64 (y+1)) 0 hmr rfl rfl rfl rfl rfl BG hsz rfl rfl hst ?_;intro w3 hm3;simp only [List.set] at hm3;clear hmr))
    rw [<- HC.out,<- HS.out] at hm3;exact xee
   ·have q1:decide (x < 16)=false:=decide_eq_false h16;have hwx:IntKind.i64.wrap x=x:=i_6;have HC:Hid (cnt1 c x=c):=h_ (by rw [cnt1,if_neg h16]);clear hc1 hc2
    go_wp2_with ((refine A8 rfl (DZ rfl rfl rfl underlying139 FV hlt hg) ?_))
    rw [<- HC.out,<- HS.out] at hmr;go_roundw
    case rel=>exact ⟨k+1,by omega,by go_num,hmr⟩
    case measure=>simp [intOf];omega
  ·obtain rfl:k=258:=by omega
   rw [HT.out] at hmr;have hc:=(HK.out 258 (by rw [HL.out];exact Nat.le_refl _)).1;rw [HT.out] at hc
   go_wp2_with (first
   |(refine Ag rfl rfl rfl (hmr.row 0 rfl) (A0R hc) ?_)
   |(refine AY 0 hmr rfl rfl rfl rfl rfl (A0R hc) rfl (J_one _ _) ?_;intro w3 hm3;simp only [List.set] at hm3;clear hmr))
   refine b_r (AQ rfl rfl (hm3.row 0 rfl) (A0R hc)) rfl ⟨rfl,hm3.below⟩
variable {l:I_} {i n:Nat}
def tab (n:Nat) (f:Nat->Int):I_:=(List.range n).map f
theorem Lm (n:Nat) (f:Nat->Int):(tab n f).length=n:=by simp [tab]
theorem A2n (f:Nat->Int) (h:i < n):gi (tab n f) i=f i:=by simp [gi,tab,h]
theorem Gi {f g:Nat->Int} (h:∀ i,i < n->f i=g i):tab n f=tab n g:=List.map_congr_left fun i hi=>h i (List.mem_range.1 hi)
theorem zQ (f:Nat->Int) (i:Nat) (v:Int):(tab n f).set i v=tab n fun j=>if j=i then v else f j:=by
 apply List.ext_getElem?;intro j;rw [List.getElem?_set];simp only [tab,List.getElem?_map,List.length_map,List.length_range];by_cases hj:j < n
 ·rw [List.getElem?_range hj];by_cases e:i=j
  ·subst e;simp [hj]
  ·rw [if_neg e];simp [show ¬ j=i from fun h=>e h.symm]
 ·rw [List.getElem?_eq_none (by simpa using hj)];by_cases e:i=j
  ·subst e;simp [hj]
  ·rw [if_neg e];simp
theorem kT (n:Nat):List.replicate n (0:Int)=tab n fun _=>0:=by
 apply List.ext_getElem?;intro j;simp [tab,List.getElem?_replicate];by_cases h:j < n
 ·simp [h]
 ·simp [h]
  try omega
theorem kH (k:IntKind) (f g:Nat->Int) (i:Nat) (v:Int) (h:∀ j,j < n->(if j=i then v else f j)=g j):(J k (tab n f)).setIfInBounds i (.int k v)=J k (tab n g):=by
 rw [Y0,zQ,Gi h]
theorem PU (k:IntKind) (f:Nat->Int) (h:i < n):(J k (tab n f))[i]?=some (.int k (f i)):=by rw [XC k _ i (by rw [Lm];exact h),A2n f h]
def eqn (l:I_) (c:Nat):Int:=(l.countP fun x:Int=>decide (x=(c:Int)):Nat)
def lsn (l:I_) (c:Nat):Int:=(l.countP fun x:Int=>decide (x < (c:Int)):Nat)
theorem Jm (l:I_) (k:Nat) (h:k < l.length) (c:Nat):eqn (l.take (k+1)) c=eqn (l.take k) c+if gi l k=c then 1 else 0:=by
 rw [eqn,FQ l k h,List.countP_append,eqn,List.countP_singleton];by_cases e:gi l k=c<;>simp [e]
theorem Fz (l:I_) (c:Nat):0<=eqn l c/\eqn l c<=l.length:=by
 have:=List.countP_le_length (p:=fun x:Int=>decide (x=c)) (l:=l);rw [eqn];omega
theorem Ll (l:I_) (c:Nat):0<=lsn l c/\lsn l c<=l.length:=by
 have:=List.countP_le_length (p:=fun x:Int=>decide (x < c)) (l:=l);rw [lsn];omega
theorem uY (h:Bytes l):lsn l 0=0:=by
 rw [lsn,List.countP_eq_zero.2]
 ·rfl
 ·intro x hx;have:=h x hx;simp;omega
theorem YO (l:I_) (c:Nat):lsn l (c+1)=eqn l c+lsn l c:=by
 induction l with
|nil=>rfl
|cons a l ih =>
  simp only [lsn,eqn,List.countP_cons] at *;generalize l.countP (fun x:Int=>decide (x < ((c+1:Nat):Int)))=p at *;generalize l.countP (fun x:Int=>decide (x=(c:Int)))=q at *;generalize l.countP (fun x:Int=>decide (x < (c:Int)))=r at *;simp only [decide_eq_true_eq];by_cases h1:a=c
  ·rw [if_pos h1,if_pos (by omega),if_neg (by omega)];omega
  ·rw [if_neg h1];by_cases h2:a < c
   ·rw [if_pos h2,if_pos (by omega)];omega
   ·rw [if_neg h2,if_neg (by omega)];omega
def aft (l:I_) (k:Nat):Int:=1+lsn l (gi l k).toNat+eqn (l.take k) (gi l k).toNat
def Iw (index row:Nat):Nat:=if index < row then row - 1 else row
def rowsOf (l:I_) (index:Nat) (r:Nat):Int:=if r=index then 0 else aft l (Iw index r)
theorem Vf (ad:Option Addr) (cp n index row:Nat) (w:World) (h1:index<=n) (h2:row<=n) (hn:n<=10000000):Calls prog 72 #[.slice ad n cp,.int .i64 index,.int .i64 row] w fun e w'=>(e=.returned (if row=index then .tuple #[.int .i64 0,.bool false] else .tuple #[.int .i64 (Iw index row),.bool true]))/\w'=w:=by
 have q1:decide ((index:Int) < 0)=false:=d_f;have q2:decide ((n:Int) < index)=false:=d_f;have q3:decide ((row:Int) < 0)=false:=d_f;have p2:decide (n < index)=false:=d_f;have p4:decide (n < row)=false:=d_f;have q4:decide ((n:Int) < row)=false:=d_f;rw [Iw];by_cases h:row=index
 ·subst h;rw [if_pos rfl];clear h1 h2 hn;exact xdx
 ·rw [if_neg h];have q5:((row:Int) == index)=false:=by simp;omega
  by_cases hl:index < row
  ·have q6:decide ((index:Int) < row)=true:=d_t;have p6:decide (index < row)=true:=decide_eq_true hl;have w1:IntKind.i64.wrap ((row:Int) - 1)=((row - 1:Nat):Int):=by rw [IntWalk.i64_in _ (by omega)];omega
   rw [if_pos hl];clear h1 h2 hn h hl;exact xdx
  ·have q6:decide ((index:Int) < row)=false:=d_f;have p6:decide (index < row)=false:=decide_eq_false hl;rw [if_neg hl];clear h1 h2 hn h hl;exact xdx
variable {a:Act} {A:Addr} {ops:O_} {Q:Exit->P_} {b l:I_} {rest:Q_} {ss:List Sl} {bytes c dc dl g k n p sc:Nat} {o:Oper} {lo x y:Operand} {P:Program} {rs:Rws} {e t:TypeId} {i:TypeInfo} {z:Value} {w w0:World} {S:World->Prop}
theorem nM (n:Nat) 
  (ho:o.op=.makeSlice t x y) (he:Gv P t e i z bytes) (hx:a.eval x=.int .i64 n) (hy:a.eval y=.int .i64 n) (hb:(bytes:Int) * n<=281474976710656) (hn:(n:Int)<=9223372036854775807) :
  (execOp a.eval o).run P w=.ok (.value (.slice (some ⟨w.heap.size,0,none⟩) n n)) (w.alloc (.cells (List.replicate n z).toArray e)):=by
 have hr:=run_make (P:=P) w t e i z he.under he.info he.zero .i64 .i64 n n (by omega) (Int.le_refl _) (by rw [he.bytes];exact hb) hn
 have hc:madeCells #[z] n=(List.replicate n z).toArray:=by
  apply Array.ext
  ·simp [madeCells]
  ·intro i h1 h2;have e:i % 1=0:=Nat.mod_one i;simp [madeCells,e]
 unfold execOp;rw [he.cell,he.size,Nat.mul_one,Int.toNat_natCast,hc] at hr;simp only [ho,hx,hy,s_b,hr,r_o,s_p]
theorem Me (n:Nat) (hm:Own w0 w rs ss) (hgd:Region.wanted o (yielded ops a.tmps)=true) 
  (ho:o.op=.makeSlice t x y) (he:Gv P t e i z bytes) (hx:a.eval x=.int .i64 n) (hy:a.eval y=.int .i64 n) (hb:(bytes:Int) * n<=281474976710656) (hn:(n:Int)<=9223372036854775807)
  (h:∀ w' g,Own w0 w' ((g,(List.replicate n z).toArray)::rs) ss->wpList P ops Q rest (a.put o.dst (.slice (some ⟨g,0,none⟩) n n)) w'):wpList P ops Q (o::rest) a w :=
 A8 hgd (nM n ho he hx hy hb hn) (h _ _ (hm.alloc _ e))
theorem A17 (n:Nat):(List.replicate n (Value.int .u8 0)).toArray=B (List.replicate n 0):=by simp [B,vs]
theorem A6X (b:Nat) (w0 w:World) (rs:Rws) (ss:List Sl) (hm:Own w0 w rs ss) (h1:1<=b) (h2:b<=1048576):Calls prog 22 #[.int .i64 b] w fun e w'=>∃ ga gd,(e=.returned (.tuple #[.pointer (some ⟨ga,0,none⟩),.int .i64 0]))/\Own w0 w' ((ga,AR (.slice (some ⟨gd,0,none⟩) b b) 0 0)::(gd,B (List.replicate b 0))::rs) ss:=by
 have q1:decide ((b:Int) < 1)=false:=d_f;have q2:decide (1048576 < (b:Int))=false:=d_f;obtain ⟨i5,hE⟩:=Md;have HE:=h_ hE;clear hE;go_enter func22,ntmps22
 go_wp2_with (first
 |(refine Me b hm rfl rfl HE.out rfl rfl (by omega) (by omega) ?_;intro w1 gd hm1;rw [A17] at hm1;clear hm)
 |(refine Ar (cs:=AR (.slice (some ⟨gd,0,none⟩) b b) 0 0) hm1 rfl rfl rfl ?_;intro w2 ga hm2;clear hm1))
 go_ret2
 exact ⟨ga,gd,rfl,hm2⟩
def A3c (l:I_) (p:Nat) (b:I_):I_:=l.take p++b++l.drop (p+b.length)
theorem A5g (i:Nat) (hm:Own w0 w rs ss) (ho:o.op=.call { callee:=.builtin .copy,args:=#[x,y],argTypes:=#[22,22] }) (hx:a.eval x=.slice (some ⟨g,p,none⟩) dl dc) (hy:a.eval y=.slice (some A) b.length sc) (hi:rs[i]?=some (g,B l)) (hs:∀ j u,(vs .u8 b)[j]?=some u->w.cell? (A.add j)=some u) (h0:b.length<=dl) (hn:p+b.length<=l.length) :
  ∃ w',(execOp a.eval o).run prog w=.ok (.value (.int .i64 b.length)) w'/\Own w0 w' (rs.set i (g,B (A3c l p b))) ss:=by
 obtain ⟨t,ht⟩:=hm.row i hi;obtain ⟨i5,hE⟩:=Md;have hr:=run_copy_row (P:=prog) w 22 22 o.type 5 g p dl dc A b.length sc (B l) t (vs .u8 b) underlying22 (by rw [hE.info];simp [hE.size]) ht (by rw [Ai];exact (Nat.min_eq_left h0).symm) hs (by rw [Ai,Ih];exact hn) (Ic _ _)
 have hB:((B l).toList.take p++vs .u8 b++(B l).toList.drop (p+(vs .u8 b).length)).toArray=B (A3c l p b):=by
  simp [B,vs,A3c,List.map_take,List.map_drop]
 rw [hB,Ai] at hr;refine ⟨w.setRow g (B (A3c l p b)),?_,hm.setRow i _ hi⟩;unfold execOp;simp only [ho,resolve,invoke,builtin,s_b,s_p,r_o,l_y,List.map_cons,List.map_nil,hx,hy,hr];rfl
theorem A5c {t:OT} (i:Nat) (hm:Own w0 w rs ss) (ho':ops.toList[k]?=some o) (hw:Region.wanted o (yielded ops a.tmps)=true) (ho:o.op=.call { callee:=.builtin .copy,args:=#[x,y],argTypes:=#[22,22] }) (hx:a.eval x=.slice (some ⟨g,p,none⟩) dl dc) (hy:a.eval y=.slice (some A) b.length sc) (hi:rs[i]?=some (g,B l)) (hs:∀ j u,(vs .u8 b)[j]?=some u->w.cell? (A.add j)=some u) (h0:b.length<=dl) (hn:p+b.length<=l.length)
  (hS:∀ w',Own w0 w' (rs.set i (g,B (A3c l p b))) ss->S w') (h:∀ w',Own w0 w' (rs.set i (g,B (A3c l p b))) ss->wpT prog ops Q t S (a.put o.dst (.int .i64 b.length)) w'):lT prog ops Q k t S a w:=by
 obtain ⟨w',hr,h2⟩:=A5g i hm ho hx hy hi hs h0 hn;exact Ym ho' hw hr (hS _ h2) (h _ h2)
theorem A4K (ho:o.op=.slice t x (some lo) none none) (he:Gv P t e i z bytes) {l:Nat} (hx:a.eval x=.slice (some ⟨g,0,none⟩) n c) (hl:a.eval lo=.int .i64 l) (h1:l < c) (h2:l<=n) (h3:n<=c) :
  (execOp a.eval o).run P w=.ok (.value (.slice (some ⟨g,l,none⟩) (n - l) (c - l))) w:=by
 have h:=A2Y (P:=P) (w:=w) (l:=l) (h:=n) ho he hx (.inr ⟨.i64,by simp [hl]⟩) (.inl ⟨rfl,rfl⟩) h2 h3;rw [h,Le _ _ _ h1]
theorem A6l (ga gd a n at_:Nat) (l b:I_) (A:Addr) (cb:Nat) (live peak:Int) (w0 w:World) (rs:Rws) (ss:List Sl) (hm:Own w0 w ((ga,AR (.slice (some ⟨gd,0,none⟩) l.length l.length) live peak)::(gd,B l)::rs) ss) (hs:∀ j u,(vs .u8 b)[j]?=some u->w.cell? (A.add j)=some u) (h1:(a:Int)+n<=live) (h2:live<=l.length) (h3:l.length<=1048576) (h4:at_+b.length<=n) (h5:0 < b.length):Calls prog 24 #[.pointer (some ⟨ga,0,none⟩),.agg (SP a n),.int .i64 at_,.slice (some A) b.length cb] w fun e w'=>(e=.returned (.bool true))/\Own w0 w' ((ga,AR (.slice (some ⟨gd,0,none⟩) l.length l.length) live peak)::(gd,B (A3c l (a+at_) b))::rs) ss:=by
 have CH:Hid (∀ W,AA W ga (AR (.slice (some ⟨gd,0,none⟩) l.length l.length) live peak)->Calls prog 64 #[.pointer (some ⟨ga,0,none⟩),.agg (SP a n)] W fun e w'=>(e=.returned (.bool true))/\Below W.heap.size W w'):=h_ fun W h=>vZ ga _ live peak a n W h (by omega) (by omega) h1 (by omega);have q1:decide ((at_:Int) < 0)=false:=d_f;have q2:decide ((n:Int) - b.length < at_)=false:=d_f;have w1:IntKind.i64.wrap ((n:Int) - b.length)=(n:Int) - b.length:=i_6;obtain ⟨e,hee⟩:∃ e,e=a+at_:=⟨_,rfl⟩;have w2:IntKind.i64.wrap ((a:Int)+at_)=(e:Int):=by rw [IntWalk.i64_in _ (by omega),hee];push_cast;rfl
 rw [<- hee];have C1:Hid (e < l.length/\b.length<=l.length - e/\e+b.length<=l.length):=h_ (by omega);have HB:Hid (∀ W,Below w.heap.size w W->∀ j u,(vs .u8 b)[j]?=some u->W.cell? (A.add j)=some u):=h_ fun W hW j u hj=>(hW.cell (block_lt_of_cell (hs j u hj))).trans (hs j u hj);obtain ⟨i5,hE⟩:=Md;have HE:=h_ hE;clear hE h1 h2 h3 h4 h5 hs hee;have hb0:Below w.heap.size w w:=Below.refl _ _;go_enter func24,ntmps24
 go_wp2_with (first
 |(refine A8 rfl (show (execOp _ _).run prog w=.ok (.value (.pointer (some ⟨w.heap.size,0,none⟩))) (w.alloc (.cells (SP a n) 50)) from rfl) ?_;have hm1:=hm.alloc (SP a n) 50;have hb1:Below w.heap.size w (w.alloc (.cells (SP a n) 50)):=(Below.refl _ _).alloc (Nat.le_refl _) _;have HS1:=h_ (HB.out _ hb1);clear hm hb0 hb1;generalize w.alloc (.cells (SP a n) 50)=w3 at hm1 HS1 ⊢;generalize w.heap.size=g at hm1 ⊢)
 |(refine Ag rfl rfl rfl (hm1.row 0 rfl) (Eo _ _) ?_)
 |(go_at_call 64;have _t:=hm1;refine (CH.out _ (hm1.row 1 rfl)).mono ?_;rintro x w2 ⟨rfl,hb2⟩;have hm2:=hm1.call hb2;have HS2:Hid (∀ j u,(vs .u8 b)[j]?=some u->w2.cell? (A.add j)=some u):=h_ (fun j u hj=>(hb2.cell (block_lt_of_cell (HS1.out j u hj))).trans (HS1.out j u hj));clear hm1 HS1)
 |(refine A8 rfl (Aa (off:=1) rfl rfl (hm2.row 0 rfl) BG (SP1 _ _)) ?_))
 refine IL (rdt 0 10 (.one 10 .done)) (fun W=>AA W g (SP a n)/\AA W ga (AR (.slice (some ⟨gd,0,none⟩) l.length l.length) live peak)) rfl (by kernel_rfl) rfl (by kernel_rfl) (fun _ _ d _ _ h=>by cases d<;>exact h) ⟨(hm2.drawn (w2.drawn+1)).row 0 rfl,(hm2.drawn (w2.drawn+1)).row 1 rfl⟩ ?_;have k1:=hm2.drawn (w2.drawn+1);have HS3:Hid (∀ j u,(vs .u8 b)[j]?=some u->({ w2 with drawn:=w2.drawn+1 }:World).cell? (A.add j)=some u):=h_ HS2.out;generalize ({ w2 with drawn:=w2.drawn+1 }:World)=wn at k1 HS3 ⊢;clear hm2 HS2;simp only [rdt]
 repeat ((first
 |(refine EW rfl rfl (fun W hW=>Aa (off:=0) rfl rfl hW.2 iO (AR0 _ _ _)) ?_)
 |(refine EW rfl rfl (fun W hW=>Aa (off:=0) rfl rfl hW.1 BG (SP0 _ _)) ?_)
 |(refine EW rfl rfl (fun W hW=>A4K (l:=e) rfl HE.out rfl rfl C1.out.1 (Nat.le_of_lt C1.out.1) (Nat.le_refl _)) ?_)
 |(refine EW rfl rfl (fun W hW=>by go_simp;rfl) ?_));(try simp only [Act.put,s3]))
 refine yh ?_;refine A5c 2 k1 rfl rfl rfl rfl rfl rfl HS3.out C1.out.2.1 C1.out.2.2 (fun w6 k2=>⟨k2.row 0 rfl,k2.row 1 rfl⟩) (fun w6 k2=>?_);simp only [List.set] at k2;clear k1;simp only [Act.put,s3];refine XI ?_;go_simp;go_wp2;go_ret;exact ⟨rfl,k2.dropRow⟩
end Go.Proofs.YtkpbhdhkdonghaaGreat
