/-
  Part 12 of the proof.
-/
import Derived.Laws.BitsLemmas
import Derived.Test.YtkpbhdhkdonghaaGreatE10
import Derived.Test.YtkpbhdhkdonghaaGreatE11
set_option linter.all false
namespace Go.Proofs.YtkpbhdhkdonghaaGreat
open Go Go.RowKit
variable {cs ds er hs ms pt x:Array Value} {i:Nat}
structure PRz (pt hs ms ts cs ds er:Array Value):Prop where
 pt:pt.size=1
 hs:hs.size=4
 ms:ms.size=7
 ts:ts.size=262
 cs:cs.size=260
 ds:ds.size=260
 er:er.size=1
def PR (pt hs ms ts cs ds er:Array Value):Array Value:=(pt.toList++(hs.toList++(ms.toList++(ts.toList++(cs.toList++(ds.toList++(er.toList))))))).toArray
theorem Bg {ts:Array Value} (h:PRz pt hs ms ts cs ds er):(PR pt hs ms ts cs ds er).size=795:=by simp [PR,h.pt,h.hs,h.ms,h.ts,h.cs,h.ds,h.er]
theorem Um {ts:Array Value}:PR pt hs ms ts cs ds er=([]++(pt.toList++(hs.toList++(ms.toList++(ts.toList++(cs.toList++(ds.toList++(er.toList)))))))).toArray:=by simp [PR,List.append_assoc]
theorem FD {ts:Array Value} (h:PRz pt hs ms ts cs ds er):(PR pt hs ms ts cs ds er).extract 0 (0+pt.size)=pt:=by rw [Um];have e:=Xl (P:=[]) (M:=pt.toList) (S:=(hs.toList++(ms.toList++(ts.toList++(cs.toList++(ds.toList++(er.toList))))))) (off:=0) (n:=pt.size) rfl (by simp);rw [e,Array.toArray_toList]
theorem FH {ts:Array Value} (h:PRz pt hs ms ts cs ds er):0+pt.size<=(PR pt hs ms ts cs ds er).size:=by rw [Bg h,h.pt];omega
theorem Eh {ts:Array Value} (h:PRz pt hs ms ts cs ds er) (hx:x.size=1):splice (PR pt hs ms ts cs ds er) 0 x=PR x hs ms ts cs ds er:=by rw [Um];have e:=bn (P:=[]) (M:=pt.toList) (M2:=x.toList) (S:=(hs.toList++(ms.toList++(ts.toList++(cs.toList++(ds.toList++(er.toList))))))) (off:=0) rfl (by simp [hx,h.pt]);rw [Array.toArray_toList] at e;rw [e,Um]
theorem PRz.pt_ {ts:Array Value} (h:PRz pt hs ms ts cs ds er) (hx:x.size=1):PRz x hs ms ts cs ds er:=⟨hx,h.hs,h.ms,h.ts,h.cs,h.ds,h.er⟩
theorem OQ {ts:Array Value}:PR pt hs ms ts cs ds er=((pt.toList)++(hs.toList++(ms.toList++(ts.toList++(cs.toList++(ds.toList++(er.toList))))))).toArray:=by simp [PR,List.append_assoc]
theorem Q5 {ts:Array Value} (h:PRz pt hs ms ts cs ds er):(PR pt hs ms ts cs ds er).extract 1 (1+hs.size)=hs:=by rw [OQ];have e:=Xl (P:=(pt.toList)) (M:=hs.toList) (S:=(ms.toList++(ts.toList++(cs.toList++(ds.toList++(er.toList)))))) (off:=1) (n:=hs.size) (by simp [h.pt]) (by simp);rw [e,Array.toArray_toList]
theorem Qa {ts:Array Value} (h:PRz pt hs ms ts cs ds er):1+hs.size<=(PR pt hs ms ts cs ds er).size:=by rw [Bg h,h.hs];omega
theorem Wp {ts:Array Value} (h:PRz pt hs ms ts cs ds er) (hx:x.size=4):splice (PR pt hs ms ts cs ds er) 1 x=PR pt x ms ts cs ds er:=by rw [OQ];have e:=bn (P:=(pt.toList)) (M:=hs.toList) (M2:=x.toList) (S:=(ms.toList++(ts.toList++(cs.toList++(ds.toList++(er.toList)))))) (off:=1) (by simp [h.pt]) (by simp [hx,h.hs]);rw [Array.toArray_toList] at e;rw [e,OQ]
theorem OM {ts:Array Value} (h:PRz pt hs ms ts cs ds er) {v:Value} (hv:hs[i]?=some v):(PR pt hs ms ts cs ds er)[1+i]?=some v:=by rw [OQ];exact UL (P:=(pt.toList)) (M:=hs.toList) (S:=(ms.toList++(ts.toList++(cs.toList++(ds.toList++(er.toList)))))) (off:=1) (by simp [h.pt]) (by rw [Array.getElem?_toList];exact hv)
theorem PRz.hs_ {ts:Array Value} (h:PRz pt hs ms ts cs ds er) (hx:x.size=4):PRz pt x ms ts cs ds er:=⟨h.pt,hx,h.ms,h.ts,h.cs,h.ds,h.er⟩
theorem OO {ts:Array Value}:PR pt hs ms ts cs ds er=((pt.toList++hs.toList)++(ms.toList++(ts.toList++(cs.toList++(ds.toList++(er.toList)))))).toArray:=by simp [PR,List.append_assoc]
theorem LQ {ts:Array Value} (h:PRz pt hs ms ts cs ds er):(PR pt hs ms ts cs ds er).extract 5 (5+ms.size)=ms:=by rw [OO];have e:=Xl (P:=(pt.toList++hs.toList)) (M:=ms.toList) (S:=(ts.toList++(cs.toList++(ds.toList++(er.toList))))) (off:=5) (n:=ms.size) (by simp [h.pt,h.hs]) (by simp);rw [e,Array.toArray_toList]
theorem LW {ts:Array Value} (h:PRz pt hs ms ts cs ds er):5+ms.size<=(PR pt hs ms ts cs ds er).size:=by rw [Bg h,h.ms];omega
theorem Gu {ts:Array Value} (h:PRz pt hs ms ts cs ds er) (hx:x.size=7):splice (PR pt hs ms ts cs ds er) 5 x=PR pt hs x ts cs ds er:=by rw [OO];have e:=bn (P:=(pt.toList++hs.toList)) (M:=ms.toList) (M2:=x.toList) (S:=(ts.toList++(cs.toList++(ds.toList++(er.toList))))) (off:=5) (by simp [h.pt,h.hs]) (by simp [hx,h.ms]);rw [Array.toArray_toList] at e;rw [e,OO]
theorem yJ {ts:Array Value} (h:PRz pt hs ms ts cs ds er) {v:Value} (hv:ms[i]?=some v):(PR pt hs ms ts cs ds er)[5+i]?=some v:=by rw [OO];exact UL (P:=(pt.toList++hs.toList)) (M:=ms.toList) (S:=(ts.toList++(cs.toList++(ds.toList++(er.toList))))) (off:=5) (by simp [h.pt,h.hs]) (by rw [Array.getElem?_toList];exact hv)
theorem PRz.ms_ {ts:Array Value} (h:PRz pt hs ms ts cs ds er) (hx:x.size=7):PRz pt hs x ts cs ds er:=⟨h.pt,h.hs,hx,h.ts,h.cs,h.ds,h.er⟩
theorem Ul {ts:Array Value}:PR pt hs ms ts cs ds er=((pt.toList++hs.toList++ms.toList)++(ts.toList++(cs.toList++(ds.toList++(er.toList))))).toArray:=by simp [PR,List.append_assoc]
theorem PZ {ts:Array Value} (h:PRz pt hs ms ts cs ds er):(PR pt hs ms ts cs ds er).extract 12 (12+ts.size)=ts:=by rw [Ul];have e:=Xl (P:=(pt.toList++hs.toList++ms.toList)) (M:=ts.toList) (S:=(cs.toList++(ds.toList++(er.toList)))) (off:=12) (n:=ts.size) (by simp [h.pt,h.hs,h.ms]) (by simp);rw [e,Array.toArray_toList]
theorem Q9 {ts:Array Value} (h:PRz pt hs ms ts cs ds er):12+ts.size<=(PR pt hs ms ts cs ds er).size:=by rw [Bg h,h.ts];omega
theorem LV {ts:Array Value} (h:PRz pt hs ms ts cs ds er) (hx:x.size=262):splice (PR pt hs ms ts cs ds er) 12 x=PR pt hs ms x cs ds er:=by rw [Ul];have e:=bn (P:=(pt.toList++hs.toList++ms.toList)) (M:=ts.toList) (M2:=x.toList) (S:=(cs.toList++(ds.toList++(er.toList)))) (off:=12) (by simp [h.pt,h.hs,h.ms]) (by simp [hx,h.ts]);rw [Array.toArray_toList] at e;rw [e,Ul]
theorem PRz.ts_ {ts:Array Value} (h:PRz pt hs ms ts cs ds er) (hx:x.size=262):PRz pt hs ms x cs ds er:=⟨h.pt,h.hs,h.ms,hx,h.cs,h.ds,h.er⟩
theorem Ur {ts:Array Value}:PR pt hs ms ts cs ds er=((pt.toList++hs.toList++ms.toList++ts.toList)++(cs.toList++(ds.toList++(er.toList)))).toArray:=by simp [PR,List.append_assoc]
theorem LU {ts:Array Value} (h:PRz pt hs ms ts cs ds er):(PR pt hs ms ts cs ds er).extract 274 (274+cs.size)=cs:=by rw [Ur];have e:=Xl (P:=(pt.toList++hs.toList++ms.toList++ts.toList)) (M:=cs.toList) (S:=(ds.toList++(er.toList))) (off:=274) (n:=cs.size) (by simp [h.pt,h.hs,h.ms,h.ts]) (by simp);rw [e,Array.toArray_toList]
theorem LX {ts:Array Value} (h:PRz pt hs ms ts cs ds er):274+cs.size<=(PR pt hs ms ts cs ds er).size:=by rw [Bg h,h.cs];omega
theorem Jy {ts:Array Value} (h:PRz pt hs ms ts cs ds er) (hx:x.size=260):splice (PR pt hs ms ts cs ds er) 274 x=PR pt hs ms ts x ds er:=by rw [Ur];have e:=bn (P:=(pt.toList++hs.toList++ms.toList++ts.toList)) (M:=cs.toList) (M2:=x.toList) (S:=(ds.toList++(er.toList))) (off:=274) (by simp [h.pt,h.hs,h.ms,h.ts]) (by simp [hx,h.cs]);rw [Array.toArray_toList] at e;rw [e,Ur]
theorem PRz.cs_ {ts:Array Value} (h:PRz pt hs ms ts cs ds er) (hx:x.size=260):PRz pt hs ms ts x ds er:=⟨h.pt,h.hs,h.ms,h.ts,hx,h.ds,h.er⟩
theorem Uo {ts:Array Value}:PR pt hs ms ts cs ds er=((pt.toList++hs.toList++ms.toList++ts.toList++cs.toList)++(ds.toList++(er.toList))).toArray:=by simp [PR,List.append_assoc]
theorem Q7 {ts:Array Value} (h:PRz pt hs ms ts cs ds er):(PR pt hs ms ts cs ds er).extract 534 (534+ds.size)=ds:=by rw [Uo];have e:=Xl (P:=(pt.toList++hs.toList++ms.toList++ts.toList++cs.toList)) (M:=ds.toList) (S:=(er.toList)) (off:=534) (n:=ds.size) (by simp [h.pt,h.hs,h.ms,h.ts,h.cs]) (by simp);rw [e,Array.toArray_toList]
theorem Qb {ts:Array Value} (h:PRz pt hs ms ts cs ds er):534+ds.size<=(PR pt hs ms ts cs ds er).size:=by rw [Bg h,h.ds];omega
theorem Q8 {ts:Array Value} (h:PRz pt hs ms ts cs ds er) (hx:x.size=260):splice (PR pt hs ms ts cs ds er) 534 x=PR pt hs ms ts cs x er:=by rw [Uo];have e:=bn (P:=(pt.toList++hs.toList++ms.toList++ts.toList++cs.toList)) (M:=ds.toList) (M2:=x.toList) (S:=(er.toList)) (off:=534) (by simp [h.pt,h.hs,h.ms,h.ts,h.cs]) (by simp [hx,h.ds]);rw [Array.toArray_toList] at e;rw [e,Uo]
theorem PRz.ds_ {ts:Array Value} (h:PRz pt hs ms ts cs ds er) (hx:x.size=260):PRz pt hs ms ts cs x er:=⟨h.pt,h.hs,h.ms,h.ts,h.cs,hx,h.er⟩
theorem Un {ts:Array Value}:PR pt hs ms ts cs ds er=((pt.toList++hs.toList++ms.toList++ts.toList++cs.toList++ds.toList)++(er.toList++[])).toArray:=by simp [PR,List.append_assoc]
theorem yK {ts:Array Value} (h:PRz pt hs ms ts cs ds er) {v:Value} (hv:er[i]?=some v):(PR pt hs ms ts cs ds er)[794+i]?=some v:=by rw [Un];exact UL (P:=(pt.toList++hs.toList++ms.toList++ts.toList++cs.toList++ds.toList)) (M:=er.toList) (S:=[]) (off:=794) (by simp [h.pt,h.hs,h.ms,h.ts,h.cs,h.ds]) (by rw [Array.getElem?_toList];exact hv)
theorem qc {ts:Array Value} (h:PRz pt hs ms ts cs ds er) (hi:i < 1) (v:Value):(PR pt hs ms ts cs ds er).setIfInBounds (794+i) v=PR pt hs ms ts cs ds (er.setIfInBounds i v):=by rw [Un];have e:=Y1 (P:=(pt.toList++hs.toList++ms.toList++ts.toList++cs.toList++ds.toList)) (M:=er.toList) (S:=[]) (off:=794) (by simp [h.pt,h.hs,h.ms,h.ts,h.cs,h.ds]) (show i < er.toList.length by simp [h.er];omega) v;rw [e,Un];simp
set_option maxHeartbeats 1000000
set_option maxRecDepth 100000
variable {a:Act} {er:Array Value} {e k:Int} {o:Oper} {x y:Operand} {t:Value} {w:World}
def EVT (k N M P S:Int) (t:Value) (e:Int):Array Value:=#[.int .u8 k,.int .i64 N,.int .i64 M,.int .i64 P,.int .u32 S,t,.int .i64 e]
def PT (k:Int):Array Value:=#[.int .i64 k]
def ER (e:Int):Array Value:=#[.int .i64 e]
theorem Ku (w:World):(zeroValue 134).run Tryz.prog w=.ok (.agg (PT 0)) w:=by kernel_rfl
theorem BX (w:World):(zeroValue 76).run Tryz.prog w=.ok (.agg (EVT 0 0 0 0 0 (.slice none 0 0) 0)) w:=by kernel_rfl
theorem Cm (k:Int):Aq Tryz.prog 134 (PT k).size:=ag rfl
theorem Dw (k N M P S:Int) (t:Value) (e:Int):Aq Tryz.prog 76 (EVT k N M P S t e).size:=ag rfl
theorem Qy (a b:Int):(PT a).size=(PT b).size:=rfl
theorem yS (k N M P S:Int) (t:Value) (e k' N' M' P' S':Int) (t':Value) (e':Int):(EVT k N M P S t e).size=(EVT k' N' M' P' S' t' e').size:=rfl
theorem Ei (k:Int):∀ v ∈ PT k,v.oneCell'=true:=Dp (cs:=[.int .i64 k]) rfl
theorem Ak (k N M P S:Int) (h:t.oneCell'=true) (e:Int):∀ v ∈ EVT k N M P S t e,v.oneCell'=true:=Dp (cs:=[.int .u8 k,.int .i64 N,.int .i64 M,.int .i64 P,.int .u32 S,t,.int .i64 e]) (by simp [h];exact ⟨rfl,rfl,rfl,rfl,rfl,rfl⟩)
theorem D9 (ho:o.op=.build 134 #[(0,x)]) (hx:a.eval x=.int .i64 k):(execOp a.eval o).run Tryz.prog w=.ok (.value (.agg (PT k))) w :=
 Dq ho (by simp only [List.map_toArray,List.map_cons,List.map_nil,hx];kernel_rfl)
theorem MN (ho:o.op=.build 76 #[(0,x),(4,y)]) (hx:a.eval x=.int .u8 k) (hy:a.eval y=.int .i64 e):(execOp a.eval o).run Tryz.prog w=.ok (.value (.agg (EVT k 0 0 0 0 (.slice none 0 0) e))) w :=
 Dq ho (by simp only [List.map_toArray,List.map_cons,List.map_nil,hx,hy];kernel_rfl)
theorem iG  (w:World):Calls Tryz.prog 77 #[] w (RB w (.agg (PT 1))):=by
 go_enter Tryz.func77,Tryz.ntmps77
 have hm:=Own.nil w
 go_wp2_with (first
  |(with_reducible refine wa 134 hm Ku ?_;clear hm;intro w g hm)
  |(with_reducible refine gBu ?_;(refine A8 rfl (D9 rfl rfl) ?_))
  |(with_reducible refine ws 134 0 hm ?_ (ht:=(by with_unfolding_all exact Cm _)) (hs:=(by with_unfolding_all exact Qy _ _)) (h1:=(by with_unfolding_all exact Ei _));clear hm;intro w hm))
 refine bodyPost_ret (AQ rfl rfl (hm.row 0 rfl) (Cm _)) rfl ⟨rfl,hm.below⟩
theorem WW  (w:World):Calls Tryz.prog 79 #[] w (RB w (.agg (PT 2))):=by
 go_enter Tryz.func79,Tryz.ntmps79
 have hm:=Own.nil w
 go_wp2_with (first
  |(with_reducible refine wa 134 hm Ku ?_;clear hm;intro w g hm)
  |(with_reducible refine gBu ?_;(refine A8 rfl (D9 rfl rfl) ?_))
  |(with_reducible refine ws 134 0 hm ?_ (ht:=(by with_unfolding_all exact Cm _)) (hs:=(by with_unfolding_all exact Qy _ _)) (h1:=(by with_unfolding_all exact Ei _));clear hm;intro w hm))
 refine bodyPost_ret (AQ rfl rfl (hm.row 0 rfl) (Cm _)) rfl ⟨rfl,hm.below⟩
theorem WV  (w:World):Calls Tryz.prog 81 #[] w (RB w (.agg (PT 3))):=by
 go_enter Tryz.func81,Tryz.ntmps81
 have hm:=Own.nil w
 go_wp2_with (first
  |(with_reducible refine wa 134 hm Ku ?_;clear hm;intro w g hm)
  |(with_reducible refine gBu ?_;(refine A8 rfl (D9 rfl rfl) ?_))
  |(with_reducible refine ws 134 0 hm ?_ (ht:=(by with_unfolding_all exact Cm _)) (hs:=(by with_unfolding_all exact Qy _ _)) (h1:=(by with_unfolding_all exact Ei _));clear hm;intro w hm))
 refine bodyPost_ret (AQ rfl rfl (hm.row 0 rfl) (Cm _)) rfl ⟨rfl,hm.below⟩
theorem iF  (w:World):Calls Tryz.prog 83 #[] w (RB w (.agg (PT 4))):=by
 go_enter Tryz.func83,Tryz.ntmps83
 have hm:=Own.nil w
 go_wp2_with (first
  |(with_reducible refine wa 134 hm Ku ?_;clear hm;intro w g hm)
  |(with_reducible refine gBu ?_;(refine A8 rfl (D9 rfl rfl) ?_))
  |(with_reducible refine ws 134 0 hm ?_ (ht:=(by with_unfolding_all exact Cm _)) (hs:=(by with_unfolding_all exact Qy _ _)) (h1:=(by with_unfolding_all exact Ei _));clear hm;intro w hm))
 refine bodyPost_ret (AQ rfl rfl (hm.row 0 rfl) (Cm _)) rfl ⟨rfl,hm.below⟩
theorem iE  (w:World):Calls Tryz.prog 85 #[] w (RB w (.agg (PT 5))):=by
 go_enter Tryz.func85,Tryz.ntmps85
 have hm:=Own.nil w
 go_wp2_with (first
  |(with_reducible refine wa 134 hm Ku ?_;clear hm;intro w g hm)
  |(with_reducible refine gBu ?_;(refine A8 rfl (D9 rfl rfl) ?_))
  |(with_reducible refine ws 134 0 hm ?_ (ht:=(by with_unfolding_all exact Cm _)) (hs:=(by with_unfolding_all exact Qy _ _)) (h1:=(by with_unfolding_all exact Ei _));clear hm;intro w hm))
 refine bodyPost_ret (AQ rfl rfl (hm.row 0 rfl) (Cm _)) rfl ⟨rfl,hm.below⟩
theorem WU  (w:World):Calls Tryz.prog 87 #[] w (RB w (.agg (PT 6))):=by
 go_enter Tryz.func87,Tryz.ntmps87
 have hm:=Own.nil w
 go_wp2_with (first
  |(with_reducible refine wa 134 hm Ku ?_;clear hm;intro w g hm)
  |(with_reducible refine gBu ?_;(refine A8 rfl (D9 rfl rfl) ?_))
  |(with_reducible refine ws 134 0 hm ?_ (ht:=(by with_unfolding_all exact Cm _)) (hs:=(by with_unfolding_all exact Qy _ _)) (h1:=(by with_unfolding_all exact Ei _));clear hm;intro w hm))
 refine bodyPost_ret (AQ rfl rfl (hm.row 0 rfl) (Cm _)) rfl ⟨rfl,hm.below⟩
theorem iD  (w:World):Calls Tryz.prog 89 #[] w (RB w (.agg (PT 7))):=by
 go_enter Tryz.func89,Tryz.ntmps89
 have hm:=Own.nil w
 go_wp2_with (first
  |(with_reducible refine wa 134 hm Ku ?_;clear hm;intro w g hm)
  |(with_reducible refine gBu ?_;(refine A8 rfl (D9 rfl rfl) ?_))
  |(with_reducible refine ws 134 0 hm ?_ (ht:=(by with_unfolding_all exact Cm _)) (hs:=(by with_unfolding_all exact Qy _ _)) (h1:=(by with_unfolding_all exact Ei _));clear hm;intro w hm))
 refine bodyPost_ret (AQ rfl rfl (hm.row 0 rfl) (Cm _)) rfl ⟨rfl,hm.below⟩
theorem iC  (w:World):Calls Tryz.prog 91 #[] w (RB w (.agg (PT 8))):=by
 go_enter Tryz.func91,Tryz.ntmps91
 have hm:=Own.nil w
 go_wp2_with (first
  |(with_reducible refine wa 134 hm Ku ?_;clear hm;intro w g hm)
  |(with_reducible refine gBu ?_;(refine A8 rfl (D9 rfl rfl) ?_))
  |(with_reducible refine ws 134 0 hm ?_ (ht:=(by with_unfolding_all exact Cm _)) (hs:=(by with_unfolding_all exact Qy _ _)) (h1:=(by with_unfolding_all exact Ei _));clear hm;intro w hm))
 refine bodyPost_ret (AQ rfl rfl (hm.row 0 rfl) (Cm _)) rfl ⟨rfl,hm.below⟩
theorem A1Q {v:Value} (h:er.size=1):er.setIfInBounds 0 v=#[v]:=by
 apply Array.ext
 ·simp [h]
 ·intro i h1 h2
  have:i=0:=by simp at h2;omega
  subst this
  simp
theorem Gf (gp:Nat) (pt hs ms ts cs ds er:Array Value) (e:Int) (w0 w:World) (rs:Rws) (ss:List Sl) (hm:Own w0 w ((gp,PR pt hs ms ts cs ds er)::rs) ss) (hz:PRz pt hs ms ts cs ds er):Calls Tryz.prog 125 #[.pointer (some ⟨gp,0,none⟩),.int .i64 e] w fun x w'=>(x=.returned (.tuple #[.agg (EVT 8 0 0 0 0 (.slice none 0 0) e),.bool true]))/\Own w0 w' ((gp,PR (PT 8) hs ms ts cs ds (ER e))::rs) ss:=by
 have HZ:=Lib.hid hz
 have HZ2:Hid (PRz (PT 8) hs ms ts cs ds er):=Lib.hid (hz.pt_ rfl)
 have HER:Hid ((er.setIfInBounds 0 (.int .i64 e))=ER e):=Lib.hid (A1Q hz.er)
 clear hz
 go_enter Tryz.func125,Tryz.ntmps125
 go_wp2_with (first
  |(go_at_call 91;refine cB (iC _) hm ?_;clear hm;intro w1 hm)
  |(with_reducible refine wa 76 hm BX ?_;clear hm;intro w g hm)
  |(with_reducible refine gBu ?_;(refine A8 rfl (MN rfl rfl rfl) ?_))
  |(with_reducible refine gSt (t:=134) ?_;(refine Ad rfl (Aj 1 hm rfl rfl (Ac rfl) rfl (Cm _) (by rw [Bg HZ.out];decide) (Ei _) (Eh HZ.out rfl) ?_);clear hm;intro w hm;try simp only [puts,s2,List.set] at hm))
  |(with_reducible refine wc 25 1 hm ?_ (hf:=(by with_unfolding_all rw [Bg HZ2.out];decide)) (hn:=(by with_unfolding_all exact qc HZ2.out (i:=0) (by decide) _));clear hm;intro w hm)
  |(with_reducible refine ws 76 0 hm ?_ (h1:=(by with_unfolding_all exact Ak _ _ _ _ _ rfl _));clear hm;intro w hm))
 rw [HER.out] at hm
 refine bodyPost_ret (Af rfl rfl (hm.row 0 rfl) (Dw _ _ _ _ _ _ _)) rfl ⟨rfl,hm.dropRow⟩
set_option maxHeartbeats 1000000
set_option maxRecDepth 100000
variable {l:List Int} {c g k m p:Nat}
theorem el22:∃ i,Gv Tryz.prog 22 5 i (.int .u8 0) 1:=Md
def Tail (X:Rws) (v:Value) (l:List Int):Prop:=(v=.slice none 0 0/\l=[]/\X=[])\/∃ g p c cells,X=[(g,cells)]/\v=.slice (some ⟨g,p,none⟩) l.length c/\l.length<=c/\p+c<=cells.size/\∀ j,j < l.length->cells[p+j]?=some (.int .u8 (gi l j))
theorem Tail.shape {X:Rws} {v:Value} (h:Tail X v l):∃ ad c,v=.slice ad l.length c:=by
 rcases h with ⟨rfl,rfl,_⟩|⟨g,p,c,cells,_,rfl,_⟩
 ·exact ⟨_,_,rfl⟩
 ·exact ⟨_,_,rfl⟩
@[reducible] def RD (v:Value) (bit used:Int) (e:Bool):Array Value:=#[v,.int .i64 bit,.int .i64 used,.bool e]
theorem brnew (w0 w:World) (rs:Rws) (ss:List Sl) (hm:Own w0 w rs ss):Calls Tryz.prog 34 #[] w fun x w'=>∃ gr,x=.returned (.pointer (some ⟨gr,0,none⟩))/\Own w0 w' ((gr,RD (.slice none 0 0) 0 0 false)::rs) ss:=by
 go_enter Tryz.func34,Tryz.ntmps34
 go_wp2_with ((with_reducible refine wb hm ?_;clear hm;intro w g hm))
 go_ret
 exact ⟨_,rfl,hm⟩
theorem jS (gr:Nat) (v:Value) (bit used:Int) (e:Bool) (w0 w:World) (rs:Rws) (ss:List Sl) (hm:Own w0 w ((gr,RD v bit used e)::rs) ss):Calls Tryz.prog 133 #[.pointer (some ⟨gr,0,none⟩)] w fun x w'=>(x=.returned (.bool e))/\Own w0 w' ((gr,RD v bit used e)::rs) ss:=by
 go_enter Tryz.func133,Tryz.ntmps133
 go_wp2_with ((with_reducible refine wl _ 0 hm ?_))
 all_goals (go_ret;exact ⟨rfl,hm⟩)
theorem brend (gr:Nat) (v:Value) (bit used:Int)  (w0 w:World) (rs:Rws) (ss:List Sl) (hm:Own w0 w ((gr,RD v bit used false)::rs) ss):Calls Tryz.prog 37 #[.pointer (some ⟨gr,0,none⟩)] w fun x w'=>(x=.returned (.bool true))/\Own w0 w' ((gr,RD v bit used true)::rs) ss:=by
 go_enter Tryz.func37,Tryz.ntmps37
 go_wp2_with (first
  |(with_reducible refine wl _ 0 hm ?_)
  |(refine Ad rfl (AZ 0 hm rfl rfl rfl rfl (ot rfl) (by simp) rfl rfl rfl ?_);clear hm;intro w hm;try simp only [s2,List.set,List.eraseIdx,s3] at hm)
   )
 all_goals (go_ret;exact ⟨rfl,hm⟩)
theorem fH (gr:Nat) (ad:Option Addr) (n c:Nat) (bit used:Int) (e:Bool) (w0 w:World) (rs:Rws) (ss:List Sl) (hm:Own w0 w ((gr,RD (.slice ad n c) bit used e)::rs) ss) (hn:n<=1000000) (h0:0<=bit) (h7:bit<=7):Calls Tryz.prog 132 #[.pointer (some ⟨gr,0,none⟩)] w fun x w'=>(x=.returned (.int .i64 ((n:Int) * 8 - bit)))/\Own w0 w' ((gr,RD (.slice ad n c) bit used e)::rs) ss:=by
 go_enter Tryz.func132,Tryz.ntmps132
 go_wp2_with fail
 refine rO hm 12 (.rds [(0,false),(1,false),(2,false),(3,true),(4,false),(5,false),(6,false),(7,false),(8,false),(9,true),(10,false),(11,false)] .done) ?_
 clear hm
 intro w hm
 simp only [KT.rds]
 iterate 3 refine kq ?_
 refine km (fun W hm=>ld 0 hm rfl rfl rfl (ot rfl) rfl) ?_
 refine kq ?_
 (refine K_p rfl rfl (fun W=>by go_simp;((rw [IntWalk.i64_in _ (by omega)];done))) ?_)
 try simp only [Act.put,s3]
 iterate 3 refine kq ?_
 refine km (fun W hm=>ld 0 hm rfl rfl rfl (ot rfl) rfl) ?_
 (refine K_p rfl rfl (fun W=>by go_simp;((rw [IntWalk.i64_in _ (by omega)];done))) ?_)
 try simp only [Act.put,s3]
 refine kq ?_
 refine Ba ?_
 go_simp
 go_wp2
 go_ret
 exact ⟨rfl,hm⟩
def big (l:List Int):Int:=l.foldl (fun v c=>v * 256+c) 0
theorem wraps_u64 (n:Int) (h0:0<=n) (h1:n < 2 ^ 64):IntKind.u64.wrap n=n:=IntWalk.u64_in n (by omega)
theorem A23 (x y:Int) (h0:0<=x) (h1:x<=255) (g0:0<=y) (g1:y<=255):bits .or .u64 (x * 256) y=x * 256+y :=
 bits_join .u64 64 (by decide) wraps_u64 8 (x * 256) y (by omega) (by omega) (by omega) g0 (by omega) (by omega)
theorem ZI (h:Bytes l) (j:Nat):0<=gi l j/\gi l j<=255:=by
 by_cases hj:j < l.length
 ·rw [BZ l j hj];have:=h _ (List.getElem_mem hj);omega
 ·simp [gi,List.getElem?_eq_none (Nat.le_of_not_lt hj)]
theorem and7 (x:Int) (h0:0<=x) (h1:x < 9223372036854775808):bits .and .i64 x 7=x % 8:=bits_mask .i64 63 (by decide) (fun n h0 h1=>IntWalk.i64_in n (by omega)) 3 (by decide) x h0 h1
theorem xI (l:List Int) (k:Nat) (h:k < l.length):big (l.take (k+1))=big (l.take k) * 256+gi l k:=by
 rw [FQ l k h,big,List.foldl_append];rfl
theorem pk_eq (x:Int) (m W:Nat) (hx0:0<=x) (hx:x < 65536) (hW:W<=8):bits .and .u64 (x / 2 ^ m) (IntKind.u64.wrap (IntKind.u64.wrap (2 ^ W) - 1)) % 4294967296=x / 2 ^ m % 2 ^ W:=by
 have hp:(0:Int) < 2 ^ m:=Int.pow_pos (by decide)
 have h1:0<=x / 2 ^ m:=Int.ediv_nonneg hx0 (by omega)
 have h2:x / 2 ^ m<=x:=Int.ediv_le_self _ hx0
 have hw1:(0:Int) < 2 ^ W:=Int.pow_pos (by decide)
 have hw2:(2:Int) ^ W<=2 ^ 8:=by exact_mod_cast Nat.pow_le_pow_right (by decide:0 < 2) hW
 rw [IntWalk.u64_in (2 ^ W) (by omega),IntWalk.u64_in _ (by omega),bits_mask .u64 64 (by decide) wraps_u64 W (by omega) _ h1 (by omega)]
 have:=Int.emod_nonneg (x / 2 ^ m) (show (2:Int) ^ W ≠ 0 by omega)
 have:=Int.emod_lt_of_pos (x / 2 ^ m) hw1
 omega
def pk (l:List Int) (bit W:Nat):Int:=big (l.take ((bit+W+7) / 8)) / 2 ^ ((bit+W+7) / 8 * 8 - bit - W) % 2 ^ W
theorem A0I (l:List Int) (h:l.length<=2) (hb:∀ x ∈ l,0<=x/\x<=255):0<=big l/\big l < 65536:=by
 match l,h,hb with
|[],_,_=>simp [big]
|[a],_,hb=>have:=hb a (by simp);simp [big];omega
|[a,b],_,hb=>have:=hb a (by simp);have:=hb b (by simp);simp [big];omega
theorem oC (l:List Int) (k:Nat) (hb:Bytes l) (h:k < m) (hm:m<=2):0<=big (l.take k)/\big (l.take k)<=255:=by
 by_cases hk:k=0
 ·subst hk;simp [big]
 ·have hk1:k=1:=by omega
  subst hk1
  have h0:=ZI hb 0
  cases l with
 |nil=>simp [big]
 |cons a l=>simp [big,gi] at h0 ⊢;exact h0
theorem A2C (gr g p c:Nat) (l:List Int) (bit W:Nat) (used:Int) (e:Bool) (cells:Array Value) (w0 w:World) (rs:Rws) (ss:List Sl) (hm:Own w0 w ((gr,RD (.slice (some ⟨g,p,none⟩) l.length c) bit used e)::(g,cells)::rs) ss) (hc:l.length<=c) (hcells:∀ j,j < l.length->cells[p+j]?=some (.int .u8 (gi l j))) (hB:Bytes l) (hl:l.length<=1000000) (hb:bit<=7) (hW:W<=8) (hW1:1<=W) (hf:bit+W<=8 * l.length):Calls Tryz.prog 208 #[.pointer (some ⟨gr,0,none⟩),.int .i64 W] w fun x w'=>(x=.returned (.tuple #[.int .u32 (pk l bit W),.bool true]))/\Own w0 w' ((gr,RD (.slice (some ⟨g,p,none⟩) l.length c) bit used e)::(g,cells)::rs) ss:=by
 have q1:decide ((W:Int) < 0)=false:=decide_eq_false (by omega)
 have q2:decide (32 < (W:Int))=false:=decide_eq_false (by omega)
 have q3:decide ((l.length:Int) * 8 - bit < W)=false:=decide_eq_false (by omega)
 have CL:Hid (∀ {w},Own w0 w ((gr,RD (.slice (some ⟨g,p,none⟩) l.length c) bit used e)::(g,cells)::rs) ss->Calls Tryz.prog 132 #[.pointer (some ⟨gr,0,none⟩)] w fun x w'=>(x=.returned (.int .i64 ((l.length:Int) * 8 - bit)))/\Own w0 w' ((gr,RD (.slice (some ⟨g,p,none⟩) l.length c) bit used e)::(g,cells)::rs) ss):=Lib.hid fun hm=>fH _ _ _ _ _ _ _ _ _ _ _ hm hl (by omega) (by omega)
 have HC:=Lib.hid hcells
 have HB:=Lib.hid hB
 clear hcells hB
 go_enter Tryz.func208,Tryz.ntmps208
 go_wp2_with (first
  |(go_at_call 132;have _t:=hm;refine (CL.out hm).mono ?_;clear _t;clear hm;rintro e w ⟨rfl,hm⟩)
  |(with_reducible refine wl _ 0 hm ?_)
   )
 obtain ⟨many,hmany⟩:∃ many:Nat,many=(bit+W+7) / 8:=⟨_,rfl⟩
 have hm2:many<=2:=by omega
 have hm3:many<=l.length:=by omega
 rw [show ((bit:Int)+(W:Int)+7) / 8=((many:Nat):Int) by omega,<- hmany]
 have HM:=Lib.hid hmany
 clear hmany
 obtain ⟨i5,hE⟩:=Md
 have HE:=Lib.hid hE
 clear hE
 go_loopw [6,41] (fun z u wr=>∃ k:Nat,k<=many/\u=.int .i64 k/\z=.int .u64 (big (l.take k))/\Own w0 wr ((gr,RD (.slice (some ⟨g,p,none⟩) l.length c) bit used e)::(g,cells)::rs) ss) (fun _ u _=>many - (intOf u).toNat)
 case atStart=>exact ⟨0,by omega,rfl,rfl,hm⟩
 case round =>
  clear hm
  obtain ⟨k,hk,rfl,rfl,hm⟩:=hrel
  by_cases hlt:k < many
  ·have hA:=(hm.row 1 rfl).cell (p+k)
   rw [HC.out k (by omega)] at hA
   have hAA:‹World›.cell? (({ block:=g,off:=p }:Addr).add k)=some (.int .u8 (gi l k)):=by rw [Addr.add_lit];exact hA
   clear hA
   have hbk:=oC l k HB.out hlt hm2
   have HS:=Lib.hid (xI l k (by omega))
   generalize big (l.take k)=x at *
   have hgb:=ZI HB.out k
   generalize gi l k=y at *
   go_wp2_with (first
   |(refine A8 rfl (Am rfl HE.out rfl rfl rfl hlt) ?_)
   |(refine A8 rfl (AU rfl rfl (ot rfl) hAA) ?_))
   rw [A23 x y hbk.1 hbk.2 hgb.1 hgb.2,<- HS.out]
   go_roundw
   case rel=>exact ⟨k+1,by omega,by go_num,rfl,hm⟩
   case measure=>simp [intOf];omega
  ·obtain rfl:k=many:=by omega
   have hbt:=A0I (l.take k) (by simp;omega) (fun x hx=>by have:=HB.out x (List.mem_of_mem_take hx);omega)
   have HP:Hid (pk l bit W=big (l.take k) / 2 ^ (k * 8 - bit - W) % 2 ^ W):=Lib.hid (by rw [pk,<- HM.out])
   have HX:=Lib.hid hbt
   clear hbt
   have s1:bit+W<=k * 8:=by have:=HM.out;omega
   have s2:k * 8<=16:=by omega
   clear hlt
   generalize big (l.take k)=x at *
   go_wp2_with ((with_reducible refine wl _ 0 hm ?_))
   rw [pk_eq x _ W HX.out.1 HX.out.2 hW,<- HP.out]
   go_ret2
   exact ⟨rfl,hm⟩
def Ui (w0:World) (gr:Nat) (X rs:Rws) (ss:List Sl) (l:List Int) (bit W:Nat) (used:Int) (e:Bool) (x:Ending) (w':World):Prop :=
 x=.returned (.tuple #[.int .u32 (pk l bit W),.bool true])/\∃ v',Tail X v' (l.drop ((bit+W) / 8))/\Own w0 w' ((gr,RD v' (((bit+W) % 8:Nat):Int) (used+W) e)::(X++rs)) ss
theorem Tail.sub {cells:Array Value} (hc:l.length<=c) (hs:p+c<=cells.size) (hcells:∀ j,j < l.length->cells[p+j]?=some (.int .u8 (gi l j))) (hk:k<=l.length):Tail [(g,cells)] (.slice (D8 (some ⟨g,p,none⟩) c k) (l.length - k) (c - k)) (l.drop k):=by
 refine .inr ?_
 by_cases h:c=k
 ·refine ⟨g,p,0,cells,rfl,by rw [D8,if_pos h,h];simp,by simp;omega,by omega,fun j hj=>?_⟩
  simp at hj;omega
 ·refine ⟨g,p+k,c - k,cells,rfl,by rw [D8,if_neg h,Option.map_some,Addr.add_lit,List.length_drop],by simp;omega,by omega,fun j hj=>?_⟩
  rw [List.length_drop] at hj
  rw [Nat.add_assoc,hcells (k+j) (by omega)]
  simp [gi]
theorem VU (gr:Nat) (X:Rws) (v:Value) (l:List Int) (bit W:Nat) (used:Int) (e:Bool) (w0 w:World) (rs:Rws) (ss:List Sl) (hm:Own w0 w ((gr,RD v bit used e)::(X++rs)) ss) (ht:Tail X v l) (hB:Bytes l) (hl:l.length<=1000000) (hb:bit<=7) (hW:W<=8) (hW1:1<=W) (hu0:0<=used) (hu1:used<=100000000000) (hf:bit+W<=8 * l.length):Calls Tryz.prog 166 #[.pointer (some ⟨gr,0,none⟩),.int .i64 W] w (Ui w0 gr X rs ss l bit W used e):=by
 rcases ht with ⟨rfl,rfl,rfl⟩|⟨g,p,c,cells,rfl,rfl,hc,hs,hcells⟩
 ·simp at hf;omega
 simp only [s2] at hm
 have CP:Hid (∀ {w},Own w0 w ((gr,RD (.slice (some ⟨g,p,none⟩) l.length c) bit used e)::(g,cells)::rs) ss->Calls Tryz.prog 208 #[.pointer (some ⟨gr,0,none⟩),.int .i64 W] w fun x w'=>(x=.returned (.tuple #[.int .u32 (pk l bit W),.bool true]))/\Own w0 w' ((gr,RD (.slice (some ⟨g,p,none⟩) l.length c) bit used e)::(g,cells)::rs) ss):=Lib.hid fun hm=>A2C _ _ _ _ _ _ _ _ _ _ _ _ _ _ hm hc hcells hB hl hb hW hW1 hf
 have HC:Hid (∀ k,k<=l.length->Tail [(g,cells)] (.slice (D8 (some ⟨g,p,none⟩) c k) (l.length - k) (c - k)) (l.drop k)):=Lib.hid fun k hk=>Tail.sub hc hs hcells hk
 clear hcells hs
 obtain ⟨k,hk⟩:∃ k:Nat,k=(bit+W) / 8:=⟨_,rfl⟩
 have k1:k<=l.length:=by omega
 have k2:k<=c:=by omega
 have HK:Hid (((bit:Int)+W) / 8=(k:Int)):=Lib.hid (by omega)
 have HK2:=Lib.hid hk
 clear hk
 have HM2:Hid (bits .and .i64 ((bit:Int)+W) 7=(((bit+W) % 8:Nat):Int)):=Lib.hid (by rw [and7 _ (by omega) (by omega)];push_cast;rfl)
 obtain ⟨y,hy⟩:∃ y,y=pk l bit W:=⟨_,rfl⟩
 rw [<- hy] at CP
 have HY:=Lib.hid hy
 clear hy
 obtain ⟨i5,hE⟩:=Md
 have HE:=Lib.hid hE
 clear hE
 go_enter Tryz.func166,Tryz.ntmps166
 go_upto_region 6 with (first
  |(go_at_call 208;have _t:=hm;refine (CP.out hm).mono ?_;clear _t;clear hm;rintro e w ⟨rfl,hm⟩)
  |(with_reducible refine wl _ 0 hm ?_)
  |(refine Ad rfl (AZ 0 hm rfl rfl (Ac rfl) rfl (ot rfl) (by simp) rfl rfl rfl ?_);clear hm;intro w hm;try simp only [s2,List.set,List.eraseIdx,s3] at hm)
   )
 refine rO hm 13 (.rds [(0,false),(1,false),(2,false),(3,false),(4,true),(5,false),(6,false),(7,false),(8,true),(9,false),(10,false),(11,false),(12,false)] (.brk 13 14 .done)) ?_
 clear hm
 intro w hm
 simp only [KT.rds]
 iterate 4 refine kq ?_
 refine km (fun W hm=>ld 0 hm rfl rfl rfl (ot rfl) rfl) ?_
 iterate 3 refine kq ?_
 refine km (fun W hm=>ld 0 hm rfl rfl rfl (ot rfl) rfl) ?_
 (refine K_p rfl rfl (fun W=>by go_simp;((rw [HK.out];done))) ?_)
 try simp only [Act.put,s3]
 (refine K_p rfl rfl (fun W=>CY (l:=k) rfl HE.out rfl (.inr ⟨_,rfl⟩) (.inl ⟨rfl,rfl⟩) k1 hc) ?_)
 try simp only [Act.put,s3]
 iterate 2 refine kq ?_
 ((refine Em rfl rfl (AZ 0 hm rfl rfl (Ac rfl) rfl (ot rfl) (by simp) rfl rfl rfl ?_)))
 clear hm
 intro w hm
 try simp only [s2,List.set,List.eraseIdx,s3] at hm
 refine ⟨fun W=>Own _ W _ _,hm,?_⟩
 try simp only [Act.put,s3]
 refine Ba ?_
 go_simp
 go_wp2_with (first
  |(with_reducible refine wl _ 0 hm ?_)
  |(refine Ad rfl (AZ 0 hm rfl rfl (Ac rfl) rfl (ot rfl) (by simp) rfl rfl rfl ?_);clear hm;intro w hm;try simp only [s2,List.set,List.eraseIdx,s3] at hm)
   )
 rw [HM2.out] at hm
 unfold Ui
 rw [<- HY.out]
 go_ret2
 exact ⟨rfl,_,by rw [<- HK2.out];exact HC.out k k1,hm⟩
theorem nZ (gr:Nat) (v:Value) (l:List Int) (bit W:Nat) (used:Int) (e:Bool) (w0 w:World) (rs:Rws) (ss:List Sl) (hm:Own w0 w ((gr,RD v bit used e)::rs) ss) (hv:∃ ad c,v=.slice ad l.length c) (hl:l.length<=1000000) (hb:bit<=7) (hW:W<=8) (hW1:1<=W) (hf:8 * l.length < bit+W):Calls Tryz.prog 208 #[.pointer (some ⟨gr,0,none⟩),.int .i64 W] w fun x w'=>(x=.returned (.tuple #[.int .u32 0,.bool false]))/\Own w0 w' ((gr,RD v bit used e)::rs) ss:=by
 obtain ⟨ad,c,rfl⟩:=hv
 have q1:decide ((W:Int) < 0)=false:=decide_eq_false (by omega)
 have q2:decide (32 < (W:Int))=false:=decide_eq_false (by omega)
 have q3:decide ((l.length:Int) * 8 - bit < W)=true:=decide_eq_true (by omega)
 have CL:Hid (∀ {w},Own w0 w ((gr,RD (.slice ad l.length c) bit used e)::rs) ss->Calls Tryz.prog 132 #[.pointer (some ⟨gr,0,none⟩)] w fun x w'=>(x=.returned (.int .i64 ((l.length:Int) * 8 - bit)))/\Own w0 w' ((gr,RD (.slice ad l.length c) bit used e)::rs) ss):=Lib.hid fun hm=>fH _ _ _ _ _ _ _ _ _ _ _ hm hl (by omega) (by omega)
 go_enter Tryz.func208,Tryz.ntmps208
 go_wp2_with ((go_at_call 132;have _t:=hm;refine (CL.out hm).mono ?_;clear _t;clear hm;rintro e w ⟨rfl,hm⟩))
 go_ret2
 exact ⟨rfl,hm⟩
theorem nY (gr:Nat) (X:Rws) (v:Value) (l:List Int) (bit W:Nat) (used:Int) (e:Bool) (w0 w:World) (rs:Rws) (ss:List Sl) (hm:Own w0 w ((gr,RD v bit used e)::(X++rs)) ss) (ht:Tail X v l) (hl:l.length<=1000000) (hb:bit<=7) (hW:W<=8) (hW1:1<=W) (hu0:0<=used) (hu1:used<=100000000000) (hf:8 * l.length < bit+W):Calls Tryz.prog 166 #[.pointer (some ⟨gr,0,none⟩),.int .i64 W] w fun x w'=>(x=.returned (.tuple #[.int .u32 0,.bool false]))/\Own w0 w' ((gr,RD v bit used e)::(X++rs)) ss:=by
 have CP:Hid (∀ {w},Own w0 w ((gr,RD v bit used e)::(X++rs)) ss->Calls Tryz.prog 208 #[.pointer (some ⟨gr,0,none⟩),.int .i64 W] w fun x w'=>(x=.returned (.tuple #[.int .u32 0,.bool false]))/\Own w0 w' ((gr,RD v bit used e)::(X++rs)) ss):=Lib.hid fun hm=>nZ _ _ _ _ _ _ _ _ _ _ _ hm ht.shape hl hb hW hW1 hf
 go_enter Tryz.func166,Tryz.ntmps166
 go_wp2_with ((go_at_call 208;have _t:=hm;refine (CP.out hm).mono ?_;clear _t;clear hm;rintro e w ⟨rfl,hm⟩))
 go_ret2
 exact ⟨rfl,hm⟩
def Wq (w0:World) (gr:Nat) (X rs:Rws) (ss:List Sl) (l:List Int) (bit:Nat) (used:Int) (e:Bool) (x:Ending) (w':World):Prop :=
 x=.returned (.tuple #[.int .u32 (pk l bit (8 - bit)),.int .i64 ((8 - bit:Nat):Int)])/\∃ v',Tail X v' (l.drop 1)/\Own w0 w' ((gr,RD v' 0 (used+(8 - bit:Nat)) e)::(X++rs)) ss
theorem o8 (gr:Nat) (X:Rws) (v:Value) (l:List Int) (used:Int) (e:Bool) (w0 w:World) (rs:Rws) (ss:List Sl) (hm:Own w0 w ((gr,RD v 0 used e)::(X++rs)) ss) (ht:Tail X v l) (hB:Bytes l) (hl:l.length<=1000000) (hu0:0<=used) (hu1:used<=100000000000):Calls Tryz.prog 131 #[.pointer (some ⟨gr,0,none⟩)] w fun x w'=>(x=.returned (.tuple #[.int .u32 0,.int .i64 0]))/\Own w0 w' ((gr,RD v 0 used e)::(X++rs)) ss:=by
 go_enter Tryz.func131,Tryz.ntmps131
 go_wp2_with ((with_reducible refine wl _ 0 hm ?_))
 go_ret2
 exact ⟨rfl,hm⟩
theorem o7 (gr:Nat) (X:Rws) (v:Value) (l:List Int) (bit:Nat) (used:Int) (e:Bool) (w0 w:World) (rs:Rws) (ss:List Sl) (hm:Own w0 w ((gr,RD v bit used e)::(X++rs)) ss) (ht:Tail X v l) (hB:Bytes l) (hl:l.length<=1000000) (hb:bit<=7) (hu0:0<=used) (hu1:used<=100000000000) (h1:1<=bit) (hne:1<=l.length):Calls Tryz.prog 131 #[.pointer (some ⟨gr,0,none⟩)] w (Wq w0 gr X rs ss l bit used e):=by
 have q1:((bit:Int) == 0)=false:=by simp;omega
 obtain ⟨W,hWe⟩:∃ W:Nat,W=8 - bit:=⟨_,rfl⟩
 have CT:Hid (∀ {w},Own w0 w ((gr,RD v bit used e)::(X++rs)) ss->Calls Tryz.prog 166 #[.pointer (some ⟨gr,0,none⟩),.int .i64 W] w (Ui w0 gr X rs ss l bit W used e)):=Lib.hid fun hm=>VU _ _ _ _ _ _ _ _ _ _ _ _ hm ht hB hl hb (by omega) (by omega) hu0 hu1 (by omega)
 have e1:IntKind.i64.wrap (8 - (bit:Int))=(W:Int):=by rw [IntWalk.i64_in _ (by omega)];omega
 have HW:=Lib.hid hWe
 have HZ:Hid ((bit+W) / 8=1/\(bit+W) % 8=0):=Lib.hid ⟨by omega,by omega⟩
 have e2:8 - (bit:Int)=(W:Int):=by omega
 clear hWe
 go_enter Tryz.func131,Tryz.ntmps131
 go_wp2_with (first
  |(go_at_call 166;have _t:=hm;refine (CT.out hm).mono ?_;clear _t;clear hm;rintro e w ⟨rfl,v2,ht2,hm⟩)
  |(with_reducible refine wl _ 0 hm ?_)
   )
 go_ret2
 rw [HZ.out.1] at ht2
 rw [HZ.out.2] at hm
 unfold Wq
 rw [<- HW.out]
 exact ⟨rfl,v2,ht2,hm⟩
set_option maxHeartbeats 1000000
set_option maxRecDepth 100000
theorem Tail.lies {X:Rws} {v:Value} {l:List Int} (h:Tail X v l):Lies 1 X v l.length (vs .u8 l):=by
 refine ⟨by simp [vs],?_⟩
 rcases h with ⟨rfl,rfl,rfl⟩|⟨g,p,c,cells,rfl,rfl,hc,hs,hcells⟩
 ·exact .inl ⟨rfl,rfl,rfl,rfl⟩
 ·exact .inr ⟨g,p,c,cells,rfl,rfl,hc,by omega,fun j hj=>by rw [Ai] at hj;rw [hcells j hj,Fg _ _ j hj]⟩
theorem Tail.A09 {X:Rws} {v:Value} {n:Nat} {l:List Int} (h:Lies 1 X v n (vs .u8 l)):Tail X v l:=by
 have hn:n=l.length:=by have:=h.1;simp [vs] at this;omega
 subst hn
 rcases h.2 with ⟨rfl,hx,hn,rfl⟩|⟨g,p,c,cells,rfl,rfl,hc,hs,hcells⟩
 ·exact .inl ⟨rfl,List.length_eq_zero_iff.1 hn,rfl⟩
 ·exact .inr ⟨g,p,c,cells,rfl,rfl,hc,by omega,fun j hj=>by rw [hcells j (by rw [Ai];exact hj),Fg _ _ j hj]⟩
def ay (w0:World) (gr gq:Nat) (u:Value) (rs:Rws) (ss:List Sl) (l:List Int) (bit used:Int) (x:Ending) (w':World):Prop :=
 x=.returned (.bool true)/\∃ X v,Tail X v l/\Own w0 w' ((gr,RD v bit used false)::(gq,#[u])::(X++rs)) ss
theorem A2D (gr gq:Nat) (X:Rws) (v u:Value) (l m:List Int) (bit used:Int) (w0 w:World) (rs:Rws) (ss:List Sl) (hm:Own w0 w ((gr,RD v bit used false)::(gq,#[u])::(X++rs)) ss) (ht:Tail X v l) (hu:∀ W,Own w0 W ((gr,RD v bit used false)::(gq,#[u])::(X++rs)) ss->Src W u (vs .u8 m)) (hl:l.length+m.length<=1000000):Calls Tryz.prog 36 #[.pointer (some ⟨gr,0,none⟩),.slice (some ⟨gq,0,none⟩) 1 1] w (ay w0 gr gq u rs ss (l++m) bit used):=by
 have HT:=Lib.hid ht.lies
 have HU:Hid (∀ W,Own w0 W ((gr,RD v bit used false)::(gq,#[u])::(X++rs)) ss->From 1 W u m.length (vs .u8 m)):=Lib.hid fun W h=>by have:=From.tK (hu W h);rwa [Ai] at this
 clear ht hu
 obtain ⟨i5,hE⟩:=nP
 have HE:=Lib.hid hE
 obtain ⟨i7,hE7⟩:=wO
 have HE7:=Lib.hid hE7
 clear hE hE7
 go_enter Tryz.func36,Tryz.ntmps36
 go_wp2_with ((with_reducible refine wl _ 0 hm ?_))
 go_loopw [17] (fun z wr=>(z=.int .i64 0/\Own w0 wr ((gr,RD v bit used false)::(gq,#[u])::(X++rs)) ss)\/(z=.int .i64 1/\∃ X v,Tail X v (l++m)/\Own w0 wr ((gr,RD v bit used false)::(gq,#[u])::(X++rs)) ss)) (fun z _=>1 - (intOf z).toNat)
 case atStart=>exact .inl ⟨rfl,hm⟩
 case round =>
  clear hm
  rcases hrel with ⟨rfl,hm⟩|⟨rfl,X2,v2,ht2,hm⟩
  ·have hA:‹World›.cell? (({ block:=gq,off:=0 }:Addr).add 0)=some u:=by rw [Addr.add_lit];exact (hm.row 1 rfl).cell 0
   go_wp2_with (first
  |(refine A8 rfl (Am (k:=0) rfl HE7.out rfl rfl rfl (by omega)) ?_)
  |(refine A8 rfl (AU rfl rfl (ot rfl) hA) ?_)
  |(refine Ad rfl (GR (A:=[_,_]) hm rfl HE.out (Ac rfl) HT.out (Ac rfl) HU.out (Ic _ _) (by omega) (by omega) (by omega) ?_);clear hm;intro X2 v2 w hX hm;simp only [s2] at hm;obtain ⟨ad2,c2,rfl⟩:=hX.shape)
  |(with_reducible refine wl _ 0 hm ?_)
  |(refine Ad rfl (AZ 0 hm rfl rfl (Ac rfl) rfl (ot rfl) (by simp) rfl rfl rfl ?_);clear hm;intro w hm;try simp only [s2,List.set,List.eraseIdx,s3] at hm)
   )
   rw [qy] at hX
   go_roundw
   case rel=>exact .inr ⟨by go_num,_,_,Tail.A09 hX,hm⟩
   case measure=>simp [intOf]
  ·go_wp2
   go_ret
   exact ⟨rfl,X2,v2,ht2,hm⟩
set_option maxHeartbeats 1000000
set_option maxRecDepth 100000
variable {cs tmps:Array Value} {ss:List Sl} {g p q:Nat × Array Value} {P:Program} {rs:Rws} {ty:TypeId} {w w0:World}
theorem Own.bM {X:Rws} (h:Own w0 w (g::p::q::(X++rs)) ss):Own w0 w (q::(X++(p::g::rs))) ss:=h.perm ((List.Perm.cons q ((List.perm_middle).trans (List.Perm.cons p List.perm_middle))).trans ((List.Perm.swap p q _).trans (((List.Perm.swap g q _).cons p).trans (List.Perm.swap g p _))))
theorem Own.Nh {X:Rws} (h:Own w0 w (q::(X++(p::g::rs))) ss):Own w0 w (g::p::q::(X++rs)) ss:=h.perm (List.Perm.symm ((List.Perm.cons q ((List.perm_middle).trans (List.Perm.cons p List.perm_middle))).trans ((List.Perm.swap p q _).trans (((List.Perm.swap g q _).cons p).trans (List.Perm.swap g p _)))))
theorem Qj {fn:Func} {p t u:Tmp} (h:fn.results=#[.tmp t,.cell p ty,.tmp u]) {g:Nat} (hp:tmps.getD p undef=.pointer (some ⟨g,0,none⟩)) (hr:AA w g cs) (ht:Aq P ty cs.size):(results fn tmps).run P w=.ok (.tuple #[tmps.getD t undef,.agg cs,tmps.getD u undef]) w:=by
 have hp':tmps[p]?.getD undef=.pointer (some ⟨g,0,none⟩):=by simpa using hp
 simp [results,h,hp',asAddr,Ec hr ht]
theorem aS (gp gr:Nat) (pt hs ms ts cs ds er:Array Value) (X:Rws) (v:Value) (l:List Int) (bit W:Nat) (used:Int) (e:Bool) (w0 w:World) (rs:Rws) (ss:List Sl) (hm:Own w0 w ((gp,PR pt hs ms ts cs ds er)::(gr,RD v bit used e)::(X++rs)) ss) (hz:PRz pt hs ms ts cs ds er) (ht:Tail X v l) (hl:l.length<=1000000) (hb:bit<=7) (hW:W<=8) (hW1:1<=W) (hu0:0<=used) (hu1:used<=100000000000) (hf:8 * l.length < bit+W) (he:e=true):Calls Tryz.prog 124 #[.pointer (some ⟨gp,0,none⟩),.pointer (some ⟨gr,0,none⟩),.int .i64 W] w fun x w'=>(x=.returned (.tuple #[.int .u32 0,.agg (EVT 8 0 0 0 0 (.slice none 0 0) 50),.bool false]))/\Own w0 w' ((gp,PR (PT 8) hs ms ts cs ds (ER 50))::(gr,RD v bit used true)::(X++rs)) ss:=by
 subst he
 have CT:Hid (∀ W0 g,Own w0 W0 (g::(gp,PR pt hs ms ts cs ds er)::(gr,RD v bit used true)::(X++rs)) ss->Calls Tryz.prog 166 #[.pointer (some ⟨gr,0,none⟩),.int .i64 W] W0 fun x w'=>(x=.returned (.tuple #[.int .u32 0,.bool false]))/\Own w0 w' (g::(gp,PR pt hs ms ts cs ds er)::(gr,RD v bit used true)::(X++rs)) ss):=Lib.hid fun W0 g h=>(nY gr X v l bit W used true w0 W0 ((gp,PR pt hs ms ts cs ds er)::g::rs) ss h.bM ht hl hb hW hW1 hu0 hu1 hf).mono fun x w' h=>⟨h.1,h.2.Nh⟩
 have CE:Hid (∀ W0 g,Own w0 W0 (g::(gp,PR pt hs ms ts cs ds er)::(gr,RD v bit used true)::(X++rs)) ss->Calls Tryz.prog 133 #[.pointer (some ⟨gr,0,none⟩)] W0 fun x w'=>(x=.returned (.bool true))/\Own w0 w' (g::(gp,PR pt hs ms ts cs ds er)::(gr,RD v bit used true)::(X++rs)) ss):=Lib.hid fun W0 g h=>(jS gr v bit used true w0 W0 (X++((gp,PR pt hs ms ts cs ds er)::g::rs)) ss h.bM).mono fun x w' h=>⟨h.1,h.2.Nh⟩
 have CW:Hid (∀ W0 g,Own w0 W0 (g::(gp,PR pt hs ms ts cs ds er)::(gr,RD v bit used true)::(X++rs)) ss->Calls Tryz.prog 125 #[.pointer (some ⟨gp,0,none⟩),.int .i64 50] W0 fun x w'=>(x=.returned (.tuple #[.agg (EVT 8 0 0 0 0 (.slice none 0 0) 50),.bool true]))/\Own w0 w' (g::(gp,PR (PT 8) hs ms ts cs ds (ER 50))::(gr,RD v bit used true)::(X++rs)) ss):=Lib.hid fun W0 g h=>(Gf gp pt hs ms ts cs ds er 50 w0 W0 (g::(gr,RD v bit used true)::(X++rs)) ss (h.perm (List.Perm.swap _ _ _)) hz).mono fun x w' h=>⟨h.1,h.2.perm (List.Perm.swap _ _ _)⟩
 clear hz ht hl hb hu0 hu1 hf
 go_enter Tryz.func124,Tryz.ntmps124
 go_upto_region 6 with (first
  |(go_at_call 166;have _t:=hm;refine (CT.out _ _ hm).mono ?_;clear _t hm;rintro x w ⟨rfl,hm⟩)
  |(go_at_call 133;have _t:=hm;refine (CE.out _ _ hm).mono ?_;clear _t hm;rintro x w ⟨rfl,hm⟩)
  |(go_at_call 125;have _t:=hm;refine (CW.out _ _ hm).mono ?_;clear _t hm;rintro x w ⟨rfl,hm⟩)
  |(with_reducible refine wa 76 hm BX ?_;clear hm;intro w g hm)
  |(with_reducible refine ws 76 0 hm ?_ (h1:=(by with_unfolding_all exact Ak _ _ _ _ _ rfl _));clear hm;intro w hm)
   )
 refine rO hm 2 (.rds [(0,true),(1,false)] (.brk 2 4 (.rds [(3,false)] .done))) ?_
 clear hm
 intro w hm
 simp only [KT.rds]
 refine km (fun W hm=>lda 0 hm rfl rfl rfl (Dw _ _ _ _ _ _ _)) ?_
 refine kq ?_
 (refine Em rfl rfl (Aw 0 hm rfl rfl (Ac rfl) rfl (Dw _ _ _ _ _ _ _) (yS _ _ _ _ _ _ _ _ _ _ _ _ _ _) (Ak _ _ _ _ _ rfl _) ?_))
 clear hm
 intro w hm
 try simp only [puts,s2,List.set,List.eraseIdx,s3] at hm
 refine ⟨fun W=>Own _ W _ _,hm,?_⟩
 try simp only [Act.put,s3]
 refine kq ?_
 refine Ba ?_
 go_simp
 go_wp2
 refine bodyPost_ret (Qj rfl rfl (hm.row 0 rfl) (Dw _ _ _ _ _ _ _)) rfl ⟨rfl,hm.dropRow⟩
theorem ig (gp gr:Nat) (pt hs ms ts cs ds er:Array Value) (X:Rws) (v:Value) (l:List Int) (bit W:Nat) (used:Int) (e:Bool) (w0 w:World) (rs:Rws) (ss:List Sl) (hm:Own w0 w ((gp,PR pt hs ms ts cs ds er)::(gr,RD v bit used e)::(X++rs)) ss) (hz:PRz pt hs ms ts cs ds er) (ht:Tail X v l) (hl:l.length<=1000000) (hb:bit<=7) (hW:W<=8) (hW1:1<=W) (hu0:0<=used) (hu1:used<=100000000000) (hB:Bytes l) (hf:bit+W<=8 * l.length):Calls Tryz.prog 124 #[.pointer (some ⟨gp,0,none⟩),.pointer (some ⟨gr,0,none⟩),.int .i64 W] w fun x w'=>(x=.returned (.tuple #[.int .u32 (pk l bit W),.agg (EVT 0 0 0 0 0 (.slice none 0 0) 0),.bool true]))/\∃ v2,Tail X v2 (l.drop ((bit+W) / 8))/\Own w0 w' ((gp,PR pt hs ms ts cs ds er)::(gr,RD v2 (((bit+W) % 8:Nat):Int) (used+W) e)::(X++rs)) ss:=by
 have CT:Hid (∀ W0 g,Own w0 W0 (g::(gp,PR pt hs ms ts cs ds er)::(gr,RD v bit used e)::(X++rs)) ss->Calls Tryz.prog 166 #[.pointer (some ⟨gr,0,none⟩),.int .i64 W] W0 fun x w'=>(x=.returned (.tuple #[.int .u32 (pk l bit W),.bool true]))/\∃ v2,Tail X v2 (l.drop ((bit+W) / 8))/\Own w0 w' (g::(gp,PR pt hs ms ts cs ds er)::(gr,RD v2 (((bit+W) % 8:Nat):Int) (used+W) e)::(X++rs)) ss):=Lib.hid fun W0 g h=>(VU gr X v l bit W used e w0 W0 ((gp,PR pt hs ms ts cs ds er)::g::rs) ss h.bM ht hB hl hb hW hW1 hu0 hu1 hf).mono fun x w' h=>by
   obtain ⟨h1,v2,h2,h3⟩:=h
   exact ⟨h1,v2,h2,h3.Nh⟩
 clear hz ht hl hb hu0 hu1 hf hB
 generalize pk l bit W=c at *
 go_enter Tryz.func124,Tryz.ntmps124
 go_upto_region 3 with (first
  |(go_at_call 166;have _t:=hm;refine (CT.out _ _ hm).mono ?_;clear _t hm;rintro x w ⟨rfl,v2,ht2,hm⟩)
  |(with_reducible refine wa 76 hm BX ?_;clear hm;intro w g hm)
   )
 refine rO hm 3 (.rds [(0,false),(1,true),(2,false)] (.brk 3 5 (.rds [(4,false)] .done))) ?_
 clear hm
 intro w hm
 simp only [KT.rds]
 refine kq ?_
 refine km (fun W hm=>lda 0 hm rfl rfl rfl (Dw _ _ _ _ _ _ _)) ?_
 refine kq ?_
 (refine Em rfl rfl (Aw 0 hm rfl rfl (Ac rfl) rfl (Dw _ _ _ _ _ _ _) (yS _ _ _ _ _ _ _ _ _ _ _ _ _ _) (Ak _ _ _ _ _ rfl _) ?_))
 clear hm
 intro w hm
 try simp only [puts,s2,List.set,List.eraseIdx,s3] at hm
 refine ⟨fun W=>Own _ W _ _,hm,?_⟩
 try simp only [Act.put,s3]
 refine kq ?_
 refine Ba ?_
 go_simp
 go_wp2
 refine bodyPost_ret (Qj rfl rfl (hm.row 0 rfl) (Dw _ _ _ _ _ _ _)) rfl ⟨rfl,v2,ht2,hm.dropRow⟩
set_option maxHeartbeats 1000000
set_option maxRecDepth 100000
theorem sW (gp:Nat) (pr:Value) (pt hs ms ts cs ds er:Array Value) (RR:Rws) (w0 w:World) (ss:List Sl) (hm:Own w0 w ((gp,PR pt hs ms ts cs ds er)::RR) ss) (Q:Rws->Prop) (k:Int) (e:Int) (PR2:Array Value) (CT:Hid (∀ W g,Own w0 W (g::(gp,PR pt hs ms ts cs ds er)::RR) ss->Calls Tryz.prog 124 #[.pointer (some ⟨gp,0,none⟩),pr,.int .i64 8] W fun x w'=>(x=.returned (.tuple #[.int .u32 0,.agg (EVT k 0 0 0 0 (.slice none 0 0) e),.bool false]))/\∃ RR',Q RR'/\Own w0 w' (g::(gp,PR2)::RR') ss)):Calls Tryz.prog 78 #[.pointer (some ⟨gp,0,none⟩),pr] w fun x w'=>(x=.returned (.tuple #[.agg (EVT k 0 0 0 0 (.slice none 0 0) e),.bool true]))/\∃ RR',Q RR'/\Own w0 w' ((gp,PR2)::RR') ss:=by
 go_enter Tryz.func78,Tryz.ntmps78
 go_wp2_with (first
  |(go_at_call 124;have _t:=hm;refine (CT.out _ _ hm).mono ?_;clear _t hm CT;rintro x w ⟨rfl,RR2,hQ,hm⟩)
  |(with_reducible refine wa 76 hm BX ?_;clear hm;intro w g hm)
  |(with_reducible (first|refine ws 76 0 hm ?_ (h1:=(by with_unfolding_all exact Ak _ _ _ _ _ rfl _))|refine ws 76 1 hm ?_ (h1:=(by with_unfolding_all exact Ak _ _ _ _ _ rfl _)));clear hm;intro w hm)
  |(with_reducible refine wla 76 0 hm ?_))
 refine bodyPost_ret (Af rfl rfl (hm.row 1 rfl) (Dw _ _ _ _ _ _ _)) rfl ⟨rfl,RR2,hQ,hm.dropRow.dropRow⟩
theorem sV (gp:Nat) (pr:Value) (pt hs ms ts cs ds er:Array Value) (RR:Rws) (w0 w:World) (ss:List Sl) (hm:Own w0 w ((gp,PR pt hs ms ts cs ds er)::RR) ss) (Q:Rws->Prop) (k:Int) (e:Int) (PR2:Array Value) (CT:Hid (∀ W g,Own w0 W (g::(gp,PR pt hs ms ts cs ds er)::RR) ss->Calls Tryz.prog 124 #[.pointer (some ⟨gp,0,none⟩),pr,.int .i64 8] W fun x w'=>(x=.returned (.tuple #[.int .u32 0,.agg (EVT k 0 0 0 0 (.slice none 0 0) e),.bool false]))/\∃ RR',Q RR'/\Own w0 w' (g::(gp,PR2)::RR') ss)):Calls Tryz.prog 80 #[.pointer (some ⟨gp,0,none⟩),pr] w fun x w'=>(x=.returned (.tuple #[.agg (EVT k 0 0 0 0 (.slice none 0 0) e),.bool true]))/\∃ RR',Q RR'/\Own w0 w' ((gp,PR2)::RR') ss:=by
 go_enter Tryz.func80,Tryz.ntmps80
 go_wp2_with (first
  |(go_at_call 124;have _t:=hm;refine (CT.out _ _ hm).mono ?_;clear _t hm CT;rintro x w ⟨rfl,RR2,hQ,hm⟩)
  |(with_reducible refine wa 76 hm BX ?_;clear hm;intro w g hm)
  |(with_reducible (first|refine ws 76 0 hm ?_ (h1:=(by with_unfolding_all exact Ak _ _ _ _ _ rfl _))|refine ws 76 1 hm ?_ (h1:=(by with_unfolding_all exact Ak _ _ _ _ _ rfl _)));clear hm;intro w hm)
  |(with_reducible refine wla 76 0 hm ?_))
 refine bodyPost_ret (Af rfl rfl (hm.row 1 rfl) (Dw _ _ _ _ _ _ _)) rfl ⟨rfl,RR2,hQ,hm.dropRow.dropRow⟩
theorem sU (gp:Nat) (pr:Value) (pt hs ms ts cs ds er:Array Value) (RR:Rws) (w0 w:World) (ss:List Sl) (hm:Own w0 w ((gp,PR pt hs ms ts cs ds er)::RR) ss) (Q:Rws->Prop) (k:Int) (e:Int) (PR2:Array Value) (CT:Hid (∀ W g,Own w0 W (g::(gp,PR pt hs ms ts cs ds er)::RR) ss->Calls Tryz.prog 124 #[.pointer (some ⟨gp,0,none⟩),pr,.int .i64 1] W fun x w'=>(x=.returned (.tuple #[.int .u32 0,.agg (EVT k 0 0 0 0 (.slice none 0 0) e),.bool false]))/\∃ RR',Q RR'/\Own w0 w' (g::(gp,PR2)::RR') ss)):Calls Tryz.prog 82 #[.pointer (some ⟨gp,0,none⟩),pr] w fun x w'=>(x=.returned (.tuple #[.agg (EVT k 0 0 0 0 (.slice none 0 0) e),.bool true]))/\∃ RR',Q RR'/\Own w0 w' ((gp,PR2)::RR') ss:=by
 go_enter Tryz.func82,Tryz.ntmps82
 go_wp2_with (first
  |(go_at_call 124;have _t:=hm;refine (CT.out _ _ hm).mono ?_;clear _t hm CT;rintro x w ⟨rfl,RR2,hQ,hm⟩)
  |(with_reducible refine wa 76 hm BX ?_;clear hm;intro w g hm)
  |(with_reducible (first|refine ws 76 0 hm ?_ (h1:=(by with_unfolding_all exact Ak _ _ _ _ _ rfl _))|refine ws 76 1 hm ?_ (h1:=(by with_unfolding_all exact Ak _ _ _ _ _ rfl _)));clear hm;intro w hm)
  |(with_reducible refine wla 76 0 hm ?_))
 refine bodyPost_ret (Af rfl rfl (hm.row 1 rfl) (Dw _ _ _ _ _ _ _)) rfl ⟨rfl,RR2,hQ,hm.dropRow.dropRow⟩
theorem sS (gp:Nat) (pr:Value) (pt hs ms ts cs ds er:Array Value) (RR:Rws) (w0 w:World) (ss:List Sl) (hm:Own w0 w ((gp,PR pt hs ms ts cs ds er)::RR) ss) (Q:Rws->Prop) (k:Int) (e:Int) (PR2:Array Value) (CT:Hid (∀ W g,Own w0 W (g::(gp,PR pt hs ms ts cs ds er)::RR) ss->Calls Tryz.prog 124 #[.pointer (some ⟨gp,0,none⟩),pr,.int .i64 1] W fun x w'=>(x=.returned (.tuple #[.int .u32 0,.agg (EVT k 0 0 0 0 (.slice none 0 0) e),.bool false]))/\∃ RR',Q RR'/\Own w0 w' (g::(gp,PR2)::RR') ss)):Calls Tryz.prog 84 #[.pointer (some ⟨gp,0,none⟩),pr] w fun x w'=>(x=.returned (.tuple #[.agg (EVT k 0 0 0 0 (.slice none 0 0) e),.bool true]))/\∃ RR',Q RR'/\Own w0 w' ((gp,PR2)::RR') ss:=by
 go_enter Tryz.func84,Tryz.ntmps84
 go_wp2_with (first
  |(go_at_call 124;have _t:=hm;refine (CT.out _ _ hm).mono ?_;clear _t hm CT;rintro x w ⟨rfl,RR2,hQ,hm⟩)
  |(with_reducible refine wa 76 hm BX ?_;clear hm;intro w g hm)
  |(with_reducible (first|refine ws 76 0 hm ?_ (h1:=(by with_unfolding_all exact Ak _ _ _ _ _ rfl _))|refine ws 76 1 hm ?_ (h1:=(by with_unfolding_all exact Ak _ _ _ _ _ rfl _)));clear hm;intro w hm)
  |(with_reducible refine wla 76 0 hm ?_))
 refine bodyPost_ret (Af rfl rfl (hm.row 1 rfl) (Dw _ _ _ _ _ _ _)) rfl ⟨rfl,RR2,hQ,hm.dropRow.dropRow⟩
set_option maxHeartbeats 1000000
set_option maxRecDepth 100000
theorem Nc (w:World):(zeroValue 137).run Tryz.prog w=.ok (.agg (HS 0 0 0 0)) w:=by kernel_rfl
theorem OI (a V M n:Int):Aq Tryz.prog 137 (HS a V M n).size:=ag rfl
theorem XL (a V M n:Int):∀ v ∈ HS a V M n,v.oneCell'=true:=Dp (cs:=[.int .i64 a,.int .i64 V,.int .i64 M,.int .i64 n]) rfl
theorem kJ (a V M n:Int):(HS a V M n).size=4:=rfl
theorem A1B (a V M n a' V' M' n':Int):(HS a V M n).size=(HS a' V' M' n').size:=rfl
theorem ML {o:Oper} {a:Act} {w:World} {x y:Operand} (ho:o.op=.build 76 #[(0,x),(1,y)]) {k n:Int} (hx:a.eval x=.int .u8 k) (hy:a.eval y=.int .i64 n):(execOp a.eval o).run Tryz.prog w=.ok (.value (.agg (EVT k n 0 0 0 (.slice none 0 0) 0))) w :=
 Dq ho (by simp only [List.map_toArray,List.map_cons,List.map_nil,hx,hy];kernel_rfl)
theorem vX (gp:Nat) (a V M c a2 V2 M2:Int) (c0:0<=c) (c1:c<=255) (pr:Value) (pt ms ts cs ds er:Array Value) (RR:Rws) (w0 w:World) (ss:List Sl) (hm:Own w0 w ((gp,PR pt (HS a V M 0) ms ts cs ds er)::RR) ss) (Q:Rws->Prop) (CT:Hid (∀ W g,Own w0 W (g::(gp,PR pt (HS a V M 0) ms ts cs ds er)::RR) ss->Calls Tryz.prog 124 #[.pointer (some ⟨gp,0,none⟩),pr,.int .i64 8] W fun x w'=>(x=.returned (.tuple #[.int .u32 c,.agg (EVT 0 0 0 0 0 (.slice none 0 0) 0),.bool true]))/\∃ RR',Q RR'/\Own w0 w' (g::(gp,PR pt (HS a V M 0) ms ts cs ds er)::RR') ss)) (CS:Hid (∀ w,Calls Tryz.prog 98 #[.agg (HS a V M 0),.int .u8 c] w (RB w (.tuple #[.agg (HS a2 V2 M2 0),.bool false,.int .i64 0])))) (hz:PRz pt (HS a V M 0) ms ts cs ds er) :Calls Tryz.prog 78 #[.pointer (some ⟨gp,0,none⟩),pr] w fun x w'=>(x=.returned (.tuple #[.agg (EVT 2 0 0 0 0 (.slice none 0 0) 0),.bool false]))/\∃ RR',Q RR'/\Own w0 w' ((gp,PR pt (HS a2 V2 M2 0) ms ts cs ds er)::RR') ss:=by
 have HZ:=Lib.hid hz
 have w1:IntKind.u8.wrap c=c:=IntWalk.u8_in _ (by omega)
 clear hz c0 c1
 go_enter Tryz.func78,Tryz.ntmps78
 go_wp2_with (first
  |(go_at_call 124;have _t:=hm;refine (CT.out _ _ hm).mono ?_;clear _t hm CT;rintro x w ⟨rfl,RR2,hQ,hm⟩)
  |(go_at_call 98;refine cB (CS.out _) hm ?_;clear hm;intro w1 hm)
  |(with_reducible refine wa 76 hm BX ?_;clear hm;intro w g hm)
  |(with_reducible refine wa 137 hm Nc ?_;clear hm;intro w g9 hm)
  |(with_reducible refine gLd (t:=137) ?_;(first|(refine A8 rfl (ldp 2 hm rfl rfl rfl (Q5 HZ.out) (OI _ _ _ _) (Qa HZ.out)) ?_)|(refine A8 rfl (lda 0 hm rfl rfl rfl (OI _ _ _ _)) ?_)))
  |(with_reducible refine gSt (t:=137) ?_;(first|(refine Ad rfl (Aw 0 hm rfl rfl (Ac rfl) rfl (OI _ _ _ _) (A1B _ _ _ _ _ _ _ _) (XL _ _ _ _) ?_);clear hm;intro w hm;try simp only [puts,s2,List.set] at hm)|(refine Ad rfl (Aj 3 hm rfl rfl (Ac rfl) rfl (OI _ _ _ _) (by rw [Bg HZ.out,kJ];decide) (XL _ _ _ _) (Wp HZ.out rfl) ?_);clear hm;intro w hm;try simp only [puts,s2,List.set] at hm)))
  |(with_reducible refine wl 3 0 hm ?_)
  |(with_reducible refine gBu (t:=76) ?_;(refine A8 rfl (ML rfl rfl rfl) ?_))
  |(with_reducible (first|refine ws 76 0 hm ?_ (h1:=(by with_unfolding_all exact Ak _ _ _ _ _ rfl _))|refine ws 76 2 hm ?_ (h1:=(by with_unfolding_all exact Ak _ _ _ _ _ rfl _)));clear hm;intro w hm)
   )
 refine bodyPost_ret (Af rfl rfl (hm.row 2 rfl) (Dw _ _ _ _ _ _ _)) rfl ⟨rfl,RR2,hQ,hm.dropRow.dropRow.dropRow⟩
theorem dV (gp:Nat) (a V M c n:Int) (c0:0<=c) (c1:c<=255) (pr:Value) (pt ms ts cs ds er:Array Value) (RR:Rws) (w0 w:World) (ss:List Sl) (hm:Own w0 w ((gp,PR pt (HS a V M 0) ms ts cs ds er)::RR) ss) (Q:Rws->Prop) (CT:Hid (∀ W g,Own w0 W (g::(gp,PR pt (HS a V M 0) ms ts cs ds er)::RR) ss->Calls Tryz.prog 124 #[.pointer (some ⟨gp,0,none⟩),pr,.int .i64 8] W fun x w'=>(x=.returned (.tuple #[.int .u32 c,.agg (EVT 0 0 0 0 0 (.slice none 0 0) 0),.bool true]))/\∃ RR',Q RR'/\Own w0 w' (g::(gp,PR pt (HS a V M 0) ms ts cs ds er)::RR') ss)) (CS:Hid (∀ w,Calls Tryz.prog 98 #[.agg (HS a V M 0),.int .u8 c] w (RB w (.tuple #[.agg (HS 4 0 0 n),.bool true,.int .i64 0])))) (hz:PRz pt (HS a V M 0) ms ts cs ds er) :Calls Tryz.prog 78 #[.pointer (some ⟨gp,0,none⟩),pr] w fun x w'=>(x=.returned (.tuple #[.agg (EVT 2 n 0 0 0 (.slice none 0 0) 0),.bool true]))/\∃ RR',Q RR'/\Own w0 w' ((gp,PR (PT 2) (HS 4 0 0 n) ms ts cs ds er)::RR') ss:=by
 have HZ:=Lib.hid hz
 have w1:IntKind.u8.wrap c=c:=IntWalk.u8_in _ (by omega)
 clear hz c0 c1
 have HZ2:Hid (PRz pt (HS 4 0 0 n) ms ts cs ds er):=Lib.hid (HZ.out.hs_ rfl)
 go_enter Tryz.func78,Tryz.ntmps78
 go_wp2_with (first
  |(go_at_call 124;have _t:=hm;refine (CT.out _ _ hm).mono ?_;clear _t hm CT;rintro x w ⟨rfl,RR2,hQ,hm⟩)
  |(go_at_call 98;refine cB (CS.out _) hm ?_;clear hm;intro w1 hm)
  |(go_at_call 79;refine cB (WW _) hm ?_;clear hm;intro w1 hm)
  |(with_reducible refine wa 76 hm BX ?_;clear hm;intro w g hm)
  |(with_reducible refine wa 137 hm Nc ?_;clear hm;intro w g9 hm)
  |(with_reducible refine gLd (t:=137) ?_;(first|(refine A8 rfl (ldp 2 hm rfl rfl rfl (Q5 HZ.out) (OI _ _ _ _) (Qa HZ.out)) ?_)|(refine A8 rfl (lda 0 hm rfl rfl rfl (OI _ _ _ _)) ?_)))
  |(with_reducible refine gSt (t:=137) ?_;(first|(refine Ad rfl (Aw 0 hm rfl rfl (Ac rfl) rfl (OI _ _ _ _) (A1B _ _ _ _ _ _ _ _) (XL _ _ _ _) ?_);clear hm;intro w hm;try simp only [puts,s2,List.set] at hm)|(refine Ad rfl (Aj 3 hm rfl rfl (Ac rfl) rfl (OI _ _ _ _) (by rw [Bg HZ.out,kJ];decide) (XL _ _ _ _) (Wp HZ.out rfl) ?_);clear hm;intro w hm;try simp only [puts,s2,List.set] at hm)))
  |(with_reducible refine wl 3 0 hm ?_)
  |(with_reducible refine gSt (t:=134) ?_;(refine Ad rfl (Aj 3 hm rfl rfl (Ac rfl) rfl (Cm _) (by rw [Bg HZ2.out];decide) (Ei _) (Eh HZ2.out rfl) ?_);clear hm;intro w hm;try simp only [puts,s2,List.set] at hm))
  |(with_reducible refine gBu (t:=76) ?_;(refine A8 rfl (ML rfl rfl rfl) ?_))
  |(with_reducible (first|refine ws 76 0 hm ?_ (h1:=(by with_unfolding_all exact Ak _ _ _ _ _ rfl _))|refine ws 76 2 hm ?_ (h1:=(by with_unfolding_all exact Ak _ _ _ _ _ rfl _)));clear hm;intro w hm)
   )
 refine bodyPost_ret (Af rfl rfl (hm.row 2 rfl) (Dw _ _ _ _ _ _ _)) rfl ⟨rfl,RR2,hQ,hm.dropRow.dropRow.dropRow⟩
theorem Own.A1F {w0 w:World} {p q r s:Nat × Array Value} {rs:Rws} {ss:List Sl} (h:Own w0 w (s::p::q::r::rs) ss):Own w0 w (p::q::r::s::rs) ss:=h.perm (List.perm_middle (l₁:=[p,q,r]))
theorem nG (gp:Nat) (a V M c e:Int) (c0:0<=c) (c1:c<=255) (pr:Value) (pt ms ts cs ds er:Array Value) (RR:Rws) (w0 w:World) (ss:List Sl) (hm:Own w0 w ((gp,PR pt (HS a V M 0) ms ts cs ds er)::RR) ss) (Q:Rws->Prop) (CT:Hid (∀ W g,Own w0 W (g::(gp,PR pt (HS a V M 0) ms ts cs ds er)::RR) ss->Calls Tryz.prog 124 #[.pointer (some ⟨gp,0,none⟩),pr,.int .i64 8] W fun x w'=>(x=.returned (.tuple #[.int .u32 c,.agg (EVT 0 0 0 0 0 (.slice none 0 0) 0),.bool true]))/\∃ RR',Q RR'/\Own w0 w' (g::(gp,PR pt (HS a V M 0) ms ts cs ds er)::RR') ss)) (CS:Hid (∀ w,Calls Tryz.prog 98 #[.agg (HS a V M 0),.int .u8 c] w (RB w (.tuple #[.agg (HS 0 0 0 0),.bool false,.int .i64 e])))) (hz:PRz pt (HS a V M 0) ms ts cs ds er) (he:e ≠ 0):Calls Tryz.prog 78 #[.pointer (some ⟨gp,0,none⟩),pr] w fun x w'=>(x=.returned (.tuple #[.agg (EVT 8 0 0 0 0 (.slice none 0 0) e),.bool true]))/\∃ RR',Q RR'/\Own w0 w' ((gp,PR (PT 8) (HS a V M 0) ms ts cs ds (ER e))::RR') ss:=by
 have HZ:=Lib.hid hz
 have w1:IntKind.u8.wrap c=c:=IntWalk.u8_in _ (by omega)
 clear hz c0 c1
 have CW:Hid (∀ {W} {g9 g7 g:Nat × Array Value} {RR2},Own w0 W (g9::g7::g::(gp,PR pt (HS a V M 0) ms ts cs ds er)::RR2) ss->Calls Tryz.prog 125 #[.pointer (some ⟨gp,0,none⟩),.int .i64 e] W fun x w'=>(x=.returned (.tuple #[.agg (EVT 8 0 0 0 0 (.slice none 0 0) e),.bool true]))/\Own w0 w' (g9::g7::g::(gp,PR (PT 8) (HS a V M 0) ms ts cs ds (ER e))::RR2) ss):=Lib.hid fun h=>(Gf gp pt (HS a V M 0) ms ts cs ds er e w0 _ _ ss (h.front 3 rfl) HZ.out).mono fun x w' h=>⟨h.1,h.2.A1F⟩
 have q1:(e != 0)=true:=by simpa using he
 have q2:(e == 0)=false:=by simpa using he
 clear he
 go_enter Tryz.func78,Tryz.ntmps78
 go_wp2_with (first
  |(go_at_call 124;have _t:=hm;refine (CT.out _ _ hm).mono ?_;clear _t hm CT;rintro x w ⟨rfl,RR2,hQ,hm⟩)
  |(go_at_call 98;refine cB (CS.out _) hm ?_;clear hm;intro w1 hm)
  |(go_at_call 125;have _t:=hm;refine (CW.out hm).mono ?_;clear _t hm;rintro x w ⟨rfl,hm⟩)
  |(with_reducible refine wa 76 hm BX ?_;clear hm;intro w g hm)
  |(with_reducible refine wa 137 hm Nc ?_;clear hm;intro w g9 hm)
  |(with_reducible refine gLd (t:=137) ?_;((refine A8 rfl (ldp 2 hm rfl rfl rfl (Q5 HZ.out) (OI _ _ _ _) (Qa HZ.out)) ?_)))
  |(with_reducible refine ws 137 0 hm ?_;clear hm;intro w hm)
  |(with_reducible (first|refine ws 76 0 hm ?_ (h1:=(by with_unfolding_all exact Ak _ _ _ _ _ rfl _))|refine ws 76 2 hm ?_ (h1:=(by with_unfolding_all exact Ak _ _ _ _ _ rfl _)));clear hm;intro w hm)
   )
 refine bodyPost_ret (Af rfl rfl (hm.row 2 rfl) (Dw _ _ _ _ _ _ _)) rfl ⟨rfl,RR2,hQ,hm.dropRow.dropRow.dropRow⟩
set_option maxHeartbeats 1000000
set_option maxRecDepth 100000
theorem Ce {l m:List Int} {s b n d s' b' n' d':Int} (h:l.length=258) (k:m.length=258):(TS l s b n d).size=(TS m s' b' n' d').size:=by rw [Dy h,Dy k]
theorem UU {a:Act} {v:Value}:a.eval (.const v)=v:=rfl
theorem bY (n c:Int) (h0:0<=n) (h1:n < 4611686018427387904) (c0:0<=c) (c1:c<=1):bits .or .i64 (n * 2) c=2 * n+c:=by
 rw [show 2 * n+c=n * 2+c by omega]
 exact bits_join .i64 63 (by decide) (fun n h0 h1=>IntWalk.i64_in n (by omega)) 1 (n * 2) c (by omega) (by simp) (by omega) c0 (by omega) (by omega)
theorem dH (l:List Int) (s b n d bit:Int) (w0:World) (hl:l.length=258) (hb:b=0\/b=1\/b=2\/b=3) (n0:0<=n) (n1:n<=15) (h0:0<=bit) (h1:bit<=1):Calls Tryz.prog 144 #[.agg (TS l s b n d),.int .i64 bit] w0 (fun e w'=>(e=.returned (.tuple #[.agg (TS l s (b+1) (2 * n+bit) d),.bool (true)]))/\Below w0.heap.size w0 w'):=by
 have HL:=Lib.hid hl
 clear hl
 have e1:bits .or .i64 (n * 2) bit=2 * n+bit:=bY n bit n0 (by omega) h0 h1
 have w1:IntKind.i64.wrap (n * 2)=n * 2:=IntWalk.i64_in _ (by omega)
 have q:decide (b < 4)=true:=decide_eq_true (by omega)
 have w2:IntKind.i64.wrap (b+1)=b+1:=IntWalk.i64_in _ (by omega)
 clear n0 n1 h0 h1 hb
 go_enter Tryz.func144,Tryz.ntmps144
 have hm:=Own.nil w0
 go_wp2_with (first
  |(with_reducible refine wb hm ?_;clear hm;intro w g hm)
  |(with_reducible refine gAl ?_;(with_reducible refine wa _ hm Jz ?_;clear hm;intro w g2 hm))
  |(with_reducible refine wl 3 1 hm ?_ (hv:=(by with_unfolding_all (first|exact (Cb HL.out)|exact (CQ HL.out)))))
  |(with_reducible refine wla 141 1 hm ?_ (ht:=(by with_unfolding_all exact Bq HL.out)))
  |(with_reducible refine wc 3 1 hm ?_ (hf:=(by with_unfolding_all (first|exact (Es HL.out)|exact (JX HL.out)))) (hn:=(by with_unfolding_all (first|exact (GY HL.out _)|exact (IE HL.out _))));clear hm;intro w hm)
  |(with_reducible refine ws 141 0 hm ?_ (ht:=(by with_unfolding_all exact Bq HL.out)) (hs:=(by with_unfolding_all exact Ce HL.out Az)) (h1:=(by with_unfolding_all exact Di _ _ _ _ _));clear hm;intro w hm))
 refine bodyPost_ret (Af rfl rfl (hm.row 0 rfl) (Bq HL.out)) rfl ⟨rfl,hm.below⟩
theorem mg (l:List Int) (s b n d bit:Int) (w0:World) (hl:l.length=258) (hb:b=4) (hbit:bit=1):Calls Tryz.prog 144 #[.agg (TS l s b n d),.int .i64 bit] w0 (fun e w'=>(e=.returned (.tuple #[.agg (TS l s 5 n d),.bool (true)]))/\Below w0.heap.size w0 w'):=by
 have HL:=Lib.hid hl
 clear hl
 subst hb hbit
 go_enter Tryz.func144,Tryz.ntmps144
 have hm:=Own.nil w0
 go_wp2_with (first
  |(with_reducible refine wb hm ?_;clear hm;intro w g hm)
  |(with_reducible refine gAl ?_;(with_reducible refine wa _ hm Jz ?_;clear hm;intro w g2 hm))
  |(with_reducible refine wl 3 1 hm ?_ (hv:=(by with_unfolding_all exact (Cb HL.out))))
  |(with_reducible refine wla 141 1 hm ?_ (ht:=(by with_unfolding_all exact Bq HL.out)))
  |(with_reducible refine gSt (t:=3) ?_;((refine Ad rfl (AZ 1 hm rfl rfl UU rfl (ot rfl) (by exact (Es HL.out)) rfl rfl (by exact (GY HL.out _)) ?_);clear hm;intro w hm;try simp only [puts,s2,List.set] at hm)))
  |(with_reducible refine ws 141 0 hm ?_ (ht:=(by with_unfolding_all exact Bq HL.out)) (hs:=(by with_unfolding_all exact Ce HL.out Az)) (h1:=(by with_unfolding_all exact Di _ _ _ _ _));clear hm;intro w hm))
 refine bodyPost_ret (Af rfl rfl (hm.row 0 rfl) (Bq HL.out)) rfl ⟨rfl,hm.below⟩
theorem A0b (l:List Int) (s b n d bit:Int) (w0:World) (hl:l.length=258) (hb:b=5) (hbit:bit=0) (n0:0<=n) (n1:n<=15):Calls Tryz.prog 144 #[.agg (TS l s b n d),.int .i64 bit] w0 (fun e w'=>(e=.returned (.tuple #[.agg (TS l s 4 (n+1) 1),.bool (decide (d ≠ 2/\n < 15))]))/\Below w0.heap.size w0 w'):=by
 have HL:=Lib.hid hl
 clear hl
 subst hb hbit
 have w1:IntKind.i64.wrap (n+1)=n+1:=IntWalk.i64_in _ (by omega)
 clear n0 n1
 by_cases hd:d=2
 ·subst hd
  rw [show decide (2 ≠ (2:Int)/\n < 15)=false by simp]
  go_enter Tryz.func144,Tryz.ntmps144
  have hm:=Own.nil w0
  go_wp2_with (first
   |(with_reducible refine wb hm ?_;clear hm;intro w g hm)
   |(with_reducible refine gAl ?_;(with_reducible refine wa _ hm Jz ?_;clear hm;intro w g2 hm))
   |(with_reducible refine wl 3 1 hm ?_ (hv:=(by with_unfolding_all (first|exact (Cb HL.out)|exact (CQ HL.out)|exact (E8 HL.out)))))
   |(with_reducible refine wla 141 1 hm ?_ (ht:=(by with_unfolding_all exact Bq HL.out)))
   |(with_reducible refine gSt (t:=3) ?_;(first|(refine Ad rfl (AZ 1 hm rfl rfl (Ac rfl) rfl (ot rfl) (by first|exact (Es HL.out)|exact (JX HL.out)|exact (Dz HL.out)) rfl rfl (by exact (IE HL.out _)) ?_);clear hm;intro w hm;try simp only [puts,s2,List.set] at hm)|(refine Ad rfl (AZ 1 hm rfl rfl UU rfl (ot rfl) (by first|exact (Es HL.out)|exact (Dz HL.out)) rfl rfl (by first|exact (GY HL.out _)|exact (GX HL.out _)) ?_);clear hm;intro w hm;try simp only [puts,s2,List.set] at hm)))
   |(with_reducible refine ws 141 0 hm ?_ (ht:=(by with_unfolding_all exact Bq HL.out)) (hs:=(by with_unfolding_all exact Ce HL.out Az)) (h1:=(by with_unfolding_all exact Di _ _ _ _ _));clear hm;intro w hm))
  refine bodyPost_ret (Af rfl rfl (hm.row 0 rfl) (Bq HL.out)) rfl ⟨rfl,hm.below⟩
 have q0:(d == 2)=false:=by simpa using hd
 have q0b:(d != 2)=true:=by simpa using hd
 by_cases hc:n < 15
 ·have q1:decide (n < 15)=true:=decide_eq_true hc
  rw [decide_eq_true ⟨hd,hc⟩]
  clear hd hc
  go_enter Tryz.func144,Tryz.ntmps144
  have hm:=Own.nil w0
  go_wp2_with (first
   |(with_reducible refine wb hm ?_;clear hm;intro w g hm)
   |(with_reducible refine gAl ?_;(with_reducible refine wa _ hm Jz ?_;clear hm;intro w g2 hm))
   |(with_reducible refine wl 3 1 hm ?_ (hv:=(by with_unfolding_all (first|exact (Cb HL.out)|exact (CQ HL.out)|exact (E8 HL.out)))))
   |(with_reducible refine wla 141 1 hm ?_ (ht:=(by with_unfolding_all exact Bq HL.out)))
   |(with_reducible refine gSt (t:=3) ?_;(first|(refine Ad rfl (AZ 1 hm rfl rfl (Ac rfl) rfl (ot rfl) (by first|exact (Es HL.out)|exact (JX HL.out)|exact (Dz HL.out)) rfl rfl (by exact (IE HL.out _)) ?_);clear hm;intro w hm;try simp only [puts,s2,List.set] at hm)|(refine Ad rfl (AZ 1 hm rfl rfl UU rfl (ot rfl) (by first|exact (Es HL.out)|exact (Dz HL.out)) rfl rfl (by first|exact (GY HL.out _)|exact (GX HL.out _)) ?_);clear hm;intro w hm;try simp only [puts,s2,List.set] at hm)))
   |(with_reducible refine ws 141 0 hm ?_ (ht:=(by with_unfolding_all exact Bq HL.out)) (hs:=(by with_unfolding_all exact Ce HL.out Az)) (h1:=(by with_unfolding_all exact Di _ _ _ _ _));clear hm;intro w hm))
  refine bodyPost_ret (Af rfl rfl (hm.row 0 rfl) (Bq HL.out)) rfl ⟨rfl,hm.below⟩
 ·have q1:decide (n < 15)=false:=decide_eq_false hc
  rw [decide_eq_false (fun h=>hc h.2)]
  clear hd hc
  go_enter Tryz.func144,Tryz.ntmps144
  have hm:=Own.nil w0
  go_wp2_with (first
   |(with_reducible refine wb hm ?_;clear hm;intro w g hm)
   |(with_reducible refine gAl ?_;(with_reducible refine wa _ hm Jz ?_;clear hm;intro w g2 hm))
   |(with_reducible refine wl 3 1 hm ?_ (hv:=(by with_unfolding_all (first|exact (Cb HL.out)|exact (CQ HL.out)|exact (E8 HL.out)))))
   |(with_reducible refine wla 141 1 hm ?_ (ht:=(by with_unfolding_all exact Bq HL.out)))
   |(with_reducible refine gSt (t:=3) ?_;(first|(refine Ad rfl (AZ 1 hm rfl rfl (Ac rfl) rfl (ot rfl) (by first|exact (Es HL.out)|exact (JX HL.out)|exact (Dz HL.out)) rfl rfl (by exact (IE HL.out _)) ?_);clear hm;intro w hm;try simp only [puts,s2,List.set] at hm)|(refine Ad rfl (AZ 1 hm rfl rfl UU rfl (ot rfl) (by first|exact (Es HL.out)|exact (Dz HL.out)) rfl rfl (by first|exact (GY HL.out _)|exact (GX HL.out _)) ?_);clear hm;intro w hm;try simp only [puts,s2,List.set] at hm)))
   |(with_reducible refine ws 141 0 hm ?_ (ht:=(by with_unfolding_all exact Bq HL.out)) (hs:=(by with_unfolding_all exact Ce HL.out Az)) (h1:=(by with_unfolding_all exact Di _ _ _ _ _));clear hm;intro w hm))
  refine bodyPost_ret (Af rfl rfl (hm.row 0 rfl) (Bq HL.out)) rfl ⟨rfl,hm.below⟩
theorem mF (l:List Int) (s b n d bit:Int) (w0:World) (hl:l.length=258) (hb:b=5) (hbit:bit=1) (n0:0<=n) (n1:n<=15):Calls Tryz.prog 144 #[.agg (TS l s b n d),.int .i64 bit] w0 (fun e w'=>(e=.returned (.tuple #[.agg (TS l s 4 (n - 1) 2),.bool (decide (d ≠ 1/\0 < n))]))/\Below w0.heap.size w0 w'):=by
 have HL:=Lib.hid hl
 clear hl
 subst hb hbit
 have w1:IntKind.i64.wrap (n - 1)=n - 1:=IntWalk.i64_in _ (by omega)
 clear n0 n1
 by_cases hd:d=1
 ·subst hd
  rw [show decide (1 ≠ (1:Int)/\0 < n)=false by simp]
  go_enter Tryz.func144,Tryz.ntmps144
  have hm:=Own.nil w0
  go_wp2_with (first
   |(with_reducible refine wb hm ?_;clear hm;intro w g hm)
   |(with_reducible refine gAl ?_;(with_reducible refine wa _ hm Jz ?_;clear hm;intro w g2 hm))
   |(with_reducible refine wl 3 1 hm ?_ (hv:=(by with_unfolding_all (first|exact (Cb HL.out)|exact (CQ HL.out)|exact (E8 HL.out)))))
   |(with_reducible refine wla 141 1 hm ?_ (ht:=(by with_unfolding_all exact Bq HL.out)))
   |(with_reducible refine gSt (t:=3) ?_;(first|(refine Ad rfl (AZ 1 hm rfl rfl (Ac rfl) rfl (ot rfl) (by first|exact (Es HL.out)|exact (JX HL.out)|exact (Dz HL.out)) rfl rfl (by exact (IE HL.out _)) ?_);clear hm;intro w hm;try simp only [puts,s2,List.set] at hm)|(refine Ad rfl (AZ 1 hm rfl rfl UU rfl (ot rfl) (by first|exact (Es HL.out)|exact (Dz HL.out)) rfl rfl (by first|exact (GY HL.out _)|exact (GX HL.out _)) ?_);clear hm;intro w hm;try simp only [puts,s2,List.set] at hm)))
   |(with_reducible refine ws 141 0 hm ?_ (ht:=(by with_unfolding_all exact Bq HL.out)) (hs:=(by with_unfolding_all exact Ce HL.out Az)) (h1:=(by with_unfolding_all exact Di _ _ _ _ _));clear hm;intro w hm))
  refine bodyPost_ret (Af rfl rfl (hm.row 0 rfl) (Bq HL.out)) rfl ⟨rfl,hm.below⟩
 have q0:(d == 1)=false:=by simpa using hd
 have q0b:(d != 1)=true:=by simpa using hd
 by_cases hc:0 < n
 ·have q1:decide (0 < n)=true:=decide_eq_true hc
  rw [decide_eq_true ⟨hd,hc⟩]
  clear hd hc
  go_enter Tryz.func144,Tryz.ntmps144
  have hm:=Own.nil w0
  go_wp2_with (first
   |(with_reducible refine wb hm ?_;clear hm;intro w g hm)
   |(with_reducible refine gAl ?_;(with_reducible refine wa _ hm Jz ?_;clear hm;intro w g2 hm))
   |(with_reducible refine wl 3 1 hm ?_ (hv:=(by with_unfolding_all (first|exact (Cb HL.out)|exact (CQ HL.out)|exact (E8 HL.out)))))
   |(with_reducible refine wla 141 1 hm ?_ (ht:=(by with_unfolding_all exact Bq HL.out)))
   |(with_reducible refine gSt (t:=3) ?_;(first|(refine Ad rfl (AZ 1 hm rfl rfl (Ac rfl) rfl (ot rfl) (by first|exact (Es HL.out)|exact (JX HL.out)|exact (Dz HL.out)) rfl rfl (by exact (IE HL.out _)) ?_);clear hm;intro w hm;try simp only [puts,s2,List.set] at hm)|(refine Ad rfl (AZ 1 hm rfl rfl UU rfl (ot rfl) (by first|exact (Es HL.out)|exact (Dz HL.out)) rfl rfl (by first|exact (GY HL.out _)|exact (GX HL.out _)) ?_);clear hm;intro w hm;try simp only [puts,s2,List.set] at hm)))
   |(with_reducible refine ws 141 0 hm ?_ (ht:=(by with_unfolding_all exact Bq HL.out)) (hs:=(by with_unfolding_all exact Ce HL.out Az)) (h1:=(by with_unfolding_all exact Di _ _ _ _ _));clear hm;intro w hm))
  refine bodyPost_ret (Af rfl rfl (hm.row 0 rfl) (Bq HL.out)) rfl ⟨rfl,hm.below⟩
 ·have q1:decide (0 < n)=false:=decide_eq_false hc
  rw [decide_eq_false (fun h=>hc h.2)]
  clear hd hc
  go_enter Tryz.func144,Tryz.ntmps144
  have hm:=Own.nil w0
  go_wp2_with (first
   |(with_reducible refine wb hm ?_;clear hm;intro w g hm)
   |(with_reducible refine gAl ?_;(with_reducible refine wa _ hm Jz ?_;clear hm;intro w g2 hm))
   |(with_reducible refine wl 3 1 hm ?_ (hv:=(by with_unfolding_all (first|exact (Cb HL.out)|exact (CQ HL.out)|exact (E8 HL.out)))))
   |(with_reducible refine wla 141 1 hm ?_ (ht:=(by with_unfolding_all exact Bq HL.out)))
   |(with_reducible refine gSt (t:=3) ?_;(first|(refine Ad rfl (AZ 1 hm rfl rfl (Ac rfl) rfl (ot rfl) (by first|exact (Es HL.out)|exact (JX HL.out)|exact (Dz HL.out)) rfl rfl (by exact (IE HL.out _)) ?_);clear hm;intro w hm;try simp only [puts,s2,List.set] at hm)|(refine Ad rfl (AZ 1 hm rfl rfl UU rfl (ot rfl) (by first|exact (Es HL.out)|exact (Dz HL.out)) rfl rfl (by first|exact (GY HL.out _)|exact (GX HL.out _)) ?_);clear hm;intro w hm;try simp only [puts,s2,List.set] at hm)))
   |(with_reducible refine ws 141 0 hm ?_ (ht:=(by with_unfolding_all exact Bq HL.out)) (hs:=(by with_unfolding_all exact Ce HL.out Az)) (h1:=(by with_unfolding_all exact Di _ _ _ _ _));clear hm;intro w hm))
  refine bodyPost_ret (Af rfl rfl (hm.row 0 rfl) (Bq HL.out)) rfl ⟨rfl,hm.below⟩
set_option maxHeartbeats 1000000
set_option maxRecDepth 100000
theorem yu {l:List Int} {s b n d:Int} (hl:l.length=258) {k:Nat} (hk:k < 258):k < (TS l s b n d).size:=by rw [Dy hl];omega
theorem jk {l:List Int} (hl:l.length=258) (k:Nat) (n:Int):(l.set k n).length=258:=by rw [List.length_set,hl]
theorem uo (l:List Int) (k:Nat) (n d:Int) (w0:World) (hl:l.length=258) (hk:k < 258) (n0:0<=n) (n1:n<=15) (hs:k+1 < 258):Calls Tryz.prog 144 #[.agg (TS l k 4 n d),.int .i64 0] w0 (fun e w'=>(e=.returned (.tuple #[.agg (TS (l.set k n) (k+1) 4 n 0),.bool true]))/\Below w0.heap.size w0 w'):=by
 have HL:=Lib.hid hl
 have HM0:=Lib.hid (jk hl k n)
 have HM:Hid True:=Lib.hid trivial
 have w1:IntKind.u8.wrap n=n:=IntWalk.u8_in _ (by omega)
 have w2:IntKind.i64.wrap ((k:Int)+1)=(k:Int)+1:=IntWalk.i64_in _ (by omega)
 have q1:decide ((k:Int)+1 < 258)=true:=decide_eq_true (by omega)
 clear hl hs n0 n1
 go_enter Tryz.func144,Tryz.ntmps144
 have hm:=Own.nil w0
 go_upto_region 9 with (first
  |(with_reducible refine wb hm ?_;clear hm;intro w g hm)
  |(with_reducible refine gAl ?_;(with_reducible refine wa _ hm Jz ?_;clear hm;intro w g2 hm))
  |(with_reducible refine wl 3 1 hm ?_ (hv:=(by with_unfolding_all (first|exact (CJ HL.out)|exact (Cb HL.out)|exact (CQ HL.out)|exact (CJ HM.out)))))
  |(with_reducible refine wc 5 1 hm ?_ (hf:=(by with_unfolding_all exact yu HL.out hk)) (hn:=(by with_unfolding_all exact aj HL.out k hk n));clear hm;intro w hm;have HM:=HM0;have HL:Hid True:=Lib.hid trivial)
  |(with_reducible refine gSt (t:=3) ?_;(first|(refine Ad rfl (AZ 1 hm rfl rfl (Ac rfl) rfl (ot rfl) (by first|exact (kD HM.out)|exact (Dz HM.out)) rfl rfl (by exact (ah HM.out _)) ?_);clear hm;intro w hm;try simp only [puts,s2,List.set] at hm)|(refine Ad rfl (AZ 1 hm rfl rfl UU rfl (ot rfl) (by exact (Dz HM.out)) rfl rfl (by exact (GX HM.out _)) ?_);clear hm;intro w hm;try simp only [puts,s2,List.set] at hm))))
 refine rO hm 9 (.rds [(0,true),(1,false),(2,true),(3,false),(4,false),(5,false),(6,true)] (.one 7 (.rds [(8,false)] (.brk 9 11 (.rds [(10,false)] .done))))) ?_
 clear hm
 intro w hm
 simp only [KT.rds]
 refine km (fun W hm=>lda 1 hm rfl rfl rfl (Bq HM.out)) ?_
 refine kq ?_
 refine km (fun W hm=>ld 1 hm rfl rfl rfl (ot rfl) (CJ HM.out)) ?_
 iterate 2 refine kq ?_
 ((refine Bz rfl rfl ?_))
 try simp only [Act.put,s3]
 ((refine D6 rfl rfl ?_))
 try simp only [Act.put,s3]
 refine RX hm rfl rfl ?_
 try simp only [Act.put,s3]
 refine kq ?_
 (refine Em rfl rfl (Aw 0 hm rfl rfl (Ac rfl) rfl (Bq HM.out) (Ce HM.out Az) (Di _ _ _ _ _) ?_))
 clear hm
 intro w hm
 try simp only [puts,s2,List.set,List.eraseIdx,s3] at hm
 refine ⟨fun W=>Own _ W _ _,hm,?_⟩
 try simp only [Act.put,s3]
 refine kq ?_
 refine Ba ?_
 go_simp
 go_wp2
 refine bodyPost_ret (Af rfl rfl (hm.row 0 rfl) (Bq HM.out)) rfl ⟨rfl,hm.below⟩
theorem mD (l:List Int) (k:Nat) (n d:Int) (w0:World) (hl:l.length=258) (hk:k < 258) (n0:0<=n) (n1:n<=15) (hb:Bytes l) (hs:k+1=258):Calls Tryz.prog 144 #[.agg (TS l k 4 n d),.int .i64 0] w0 (fun e w'=>(e=.returned (.tuple #[.agg (TS (l.set k n) (k+1) 4 n 0),.bool (JL (l.set k n))]))/\Below w0.heap.size w0 w'):=by
 have HL:=Lib.hid hl
 have HM0:=Lib.hid (jk hl k n)
 have HM:Hid True:=Lib.hid trivial
 have w1:IntKind.u8.wrap n=n:=IntWalk.u8_in _ (by omega)
 have w2:IntKind.i64.wrap ((k:Int)+1)=(k:Int)+1:=IntWalk.i64_in _ (by omega)
 have q1:decide ((k:Int)+1 < 258)=false:=decide_eq_false (by omega)
 have CT:=Lib.hid (fun w=>table_any (l.set k n) w HM0.out (fun x hx=>by rcases List.mem_or_eq_of_mem_set hx with h|rfl;exact hb x h;omega))
 generalize JL (l.set k n)=z at *
 clear hl hs n0 n1 hb
 go_enter Tryz.func144,Tryz.ntmps144
 have hm:=Own.nil w0
 go_upto_region 9 with (first
  |(with_reducible refine wb hm ?_;clear hm;intro w g hm)
  |(with_reducible refine gAl ?_;(with_reducible refine wa _ hm Jz ?_;clear hm;intro w g2 hm))
  |(with_reducible refine wl 3 1 hm ?_ (hv:=(by with_unfolding_all (first|exact (CJ HL.out)|exact (Cb HL.out)|exact (CQ HL.out)|exact (CJ HM.out)))))
  |(with_reducible refine wc 5 1 hm ?_ (hf:=(by with_unfolding_all exact yu HL.out hk)) (hn:=(by with_unfolding_all exact aj HL.out k hk n));clear hm;intro w hm;have HM:=HM0;have HL:Hid True:=Lib.hid trivial)
  |(with_reducible refine gSt (t:=3) ?_;(first|(refine Ad rfl (AZ 1 hm rfl rfl (Ac rfl) rfl (ot rfl) (by first|exact (kD HM.out)|exact (Dz HM.out)) rfl rfl (by exact (ah HM.out _)) ?_);clear hm;intro w hm;try simp only [puts,s2,List.set] at hm)|(refine Ad rfl (AZ 1 hm rfl rfl UU rfl (ot rfl) (by exact (Dz HM.out)) rfl rfl (by exact (GX HM.out _)) ?_);clear hm;intro w hm;try simp only [puts,s2,List.set] at hm))))
 refine rO hm 9 (.rds [(0,true),(1,false),(2,true),(3,false),(4,false),(5,false),(6,true)] (.one 7 (.rds [(8,false)] (.brk 9 11 (.rds [(10,false)] .done))))) ?_
 clear hm
 intro w hm
 simp only [KT.rds]
 refine km (fun W hm=>lda 1 hm rfl rfl rfl (Bq HM.out)) ?_
 refine kq ?_
 refine km (fun W hm=>ld 1 hm rfl rfl rfl (ot rfl) (CJ HM.out)) ?_
 iterate 3 refine kq ?_
 refine km (fun W hm=>ldp 1 hm rfl rfl rfl (Jv HM.out) (F5 HM.out) (L9 HM.out)) ?_
 refine DJ rfl rfl (fun K hK=>?_)
 go_simp
 refine (CT.out _).mono ?_
 rintro e w1 ⟨rfl,hb⟩
 replace hm:=hm.call hb
 clear hb
 refine hK _ _ ⟨fun W=>Own _ W _ _,fun _ h=>h,hm,?_⟩
 clear hK K
 refine kq ?_
 (refine Em rfl rfl (Aw 0 hm rfl rfl (Ac rfl) rfl (Bq HM.out) (Ce HM.out Az) (Di _ _ _ _ _) ?_))
 clear hm
 intro w hm
 try simp only [puts,s2,List.set,List.eraseIdx,s3] at hm
 refine ⟨fun W=>Own _ W _ _,hm,?_⟩
 try simp only [Act.put,s3]
 refine kq ?_
 refine Ba ?_
 go_simp
 go_wp2
 refine bodyPost_ret (Af rfl rfl (hm.row 0 rfl) (Bq HM.out)) rfl ⟨rfl,hm.below⟩
set_option maxHeartbeats 1000000
set_option maxRecDepth 100000
theorem XB (l:List Int) (s b n d:Int) (hl:l.length=258) (hb:4<=b) (w:World):Calls Tryz.prog 209 #[.agg (TS l s b n d)] w (RB w (.bool false)):=by
 have HL:=Lib.hid hl
 have CW:Hid (∀ w,Calls Tryz.prog 210 #[.int .i64 b,.int .i64 0,.int .i64 3] w fun x w'=>(x=.returned (.bool false))/\w'=w):=Lib.hid fun w=>by have:=JH b 0 3 w;rwa [Ri (by omega)] at this
 clear hl hb
 go_enter Tryz.func209,Tryz.ntmps209
 have hm:=Own.nil w
 go_upto_region 1 with ((with_reducible refine wb hm ?_;clear hm;intro w g hm))
 refine rO hm 2 (.rds [(0,false),(1,true)] (.brk 2 10 (.rds [(3,false),(4,false),(5,true),(6,false),(7,true),(8,false),(9,false)] (.brk 10 22 (.rds [(11,false),(12,false),(13,true),(14,false),(15,true),(16,false),(17,true),(18,false),(19,false),(20,false),(21,false)] .done))))) ?_
 clear hm
 intro w hm
 simp only [KT.rds]
 refine kq ?_
 refine km (fun W hm=>ld 0 hm rfl rfl rfl (ot rfl) (Cb HL.out)) ?_
 refine PO rfl rfl (fun K hK=>?_)
 go_simp
 refine (CW.out _).mono ?_
 rintro e w1 ⟨rfl,rfl⟩
 refine hK _ _ ⟨fun W=>Own _ W _ _,hm,?_⟩
 clear hK K
 refine kq ?_
 ((refine Bz rfl rfl ?_))
 try simp only [Act.put,s3]
 ((refine D6 rfl rfl ?_))
 try simp only [Act.put,s3]
 ((refine Bz rfl rfl ?_))
 try simp only [Act.put,s3]
 ((refine D6 rfl rfl ?_))
 try simp only [Act.put,s3]
 ((refine Bz rfl rfl ?_))
 try simp only [Act.put,s3]
 ((refine Bz rfl rfl ?_))
 try simp only [Act.put,s3]
 refine xB hm rfl rfl ?_
 try simp only [Act.put,s3]
 iterate 2 refine kq ?_
 ((refine D6 rfl rfl ?_))
 try simp only [Act.put,s3]
 ((refine Bz rfl rfl ?_))
 try simp only [Act.put,s3]
 ((refine D6 rfl rfl ?_))
 try simp only [Act.put,s3]
 ((refine Bz rfl rfl ?_))
 try simp only [Act.put,s3]
 ((refine D6 rfl rfl ?_))
 try simp only [Act.put,s3]
 ((refine Bz rfl rfl ?_))
 try simp only [Act.put,s3]
 ((refine Bz rfl rfl ?_))
 try simp only [Act.put,s3]
 iterate 2 refine kq ?_
 refine Ba ?_
 go_simp
 go_wp2
 go_ret
 exact ⟨rfl,hm.below⟩
theorem A0K (b n:Int) (hb:b=0\/b=1\/b=2\/b=3) (n0:0<=n) (n1:n < 2 ^ b.toNat) (w:World):Calls Tryz.prog 209 #[.agg (TS Hf 0 b n 0)] w (RB w (.bool true)):=by
 have HL:=Lib.hid Az
 have CW:Hid (∀ w,Calls Tryz.prog 210 #[.int .i64 b,.int .i64 0,.int .i64 3] w fun x w'=>(x=.returned (.bool true))/\w'=w):=Lib.hid fun w=>by have:=JH b 0 3 w;rwa [Eu (by omega) (by omega)] at this
 have CN:Hid (∀ w,Calls Tryz.prog 210 #[.int .i64 n,.int .i64 0,.int .i64 (2 ^ b.toNat - 1)] w fun x w'=>(x=.returned (.bool true))/\w'=w):=Lib.hid fun w=>by have:=JH n 0 (2 ^ b.toNat - 1) w;rwa [Eu (by omega) (by omega)] at this
 clear n0 n1
 rcases hb with rfl|rfl|rfl|rfl
 all_goals
  go_enter Tryz.func209,Tryz.ntmps209
  have hm:=Own.nil w
  go_upto_region 1 with ((with_reducible refine wb hm ?_;clear hm;intro w g hm))
  refine rO hm 2 (.rds [(0,false),(1,true)] (.brk 2 10 (.rds [(3,false),(4,false),(5,true),(6,false),(7,true),(8,false),(9,false)] (.brk 10 22 (.rds [(11,false),(12,false),(13,true),(14,false),(15,true),(16,false),(17,true),(18,false),(19,false),(20,false),(21,false)] .done))))) ?_
  clear hm
  intro w hm
  simp only [KT.rds]
  refine kq ?_
  refine km (fun W hm=>ld 0 hm rfl rfl rfl (ot rfl) (Cb HL.out)) ?_
  refine PO rfl rfl (fun K hK=>?_)
  go_simp
  refine (CW.out _).mono ?_
  rintro e w1 ⟨rfl,rfl⟩
  refine hK _ _ ⟨fun W=>Own _ W _ _,hm,?_⟩
  clear hK K
  iterate 2 refine kq ?_
  refine km (fun W hm=>ld 0 hm rfl rfl rfl (ot rfl) (CQ HL.out)) ?_
  refine kq ?_
  refine km (fun W hm=>ld 0 hm rfl rfl rfl (ot rfl) (Cb HL.out)) ?_
  ((refine K_p rfl rfl (fun W=>by go_simp;((rw [IntWalk.i64_in _ (by omega)];done))) ?_))
  try simp only [Act.put,s3]
  ((refine K_p rfl rfl (fun W=>by go_simp;((rw [IntWalk.i64_in _ (by omega)];done))) ?_))
  try simp only [Act.put,s3]
  refine PO rfl rfl (fun K hK=>?_)
  go_simp
  refine (CN.out _).mono ?_
  rintro e w1 ⟨rfl,rfl⟩
  refine hK _ _ ⟨fun W=>Own _ W _ _,hm,?_⟩
  clear hK K
  iterate 2 refine kq ?_
  refine km (fun W hm=>lda 0 hm rfl rfl rfl (Bq HL.out)) ?_
  refine kq ?_
  refine km (fun W hm=>ld 0 hm rfl rfl rfl (ot rfl) (Cb HL.out)) ?_
  refine kq ?_
  refine km (fun W hm=>ld 0 hm rfl rfl rfl (ot rfl) (CQ HL.out)) ?_
  ((refine K_p rfl rfl (fun W=>UQ rfl rfl rfl) ?_))
  try simp only [Act.put,s3]
  ((refine K_p rfl rfl (fun W=>dZ rfl rfl rfl HL.out) ?_))
  try simp only [Act.put,s3]
  iterate 2 refine kq ?_
  refine Ba ?_
  go_simp
  go_wp2
  go_ret
  exact ⟨rfl,hm.below⟩
set_option maxHeartbeats 1000000
set_option maxRecDepth 100000
theorem XQ (b n:Int) (w0:World) (hb:b=0\/b=1\/b=2\/b=3) (n0:0<=n) (n1:n < 2 ^ b.toNat):Calls Tryz.prog 167 #[.agg (TS Hf 0 b n 0)] w0 (fun e w'=>(e=.returned (.bool true))/\Below w0.heap.size w0 w'):=by
 have CB:=Lib.hid (fun w=>A0K b n hb n0 n1 w)
 have HL:=Lib.hid Az
 clear hb n0 n1
 go_enter Tryz.func167,Tryz.ntmps167
 have hm:=Own.nil w0
 go_wp2_with (first
  |(go_at_call 209;refine cB (CB.out _) hm ?_;clear hm;intro w1 hm)
  |(with_reducible refine wb hm ?_;clear hm;intro w g hm)
  |(with_reducible refine wla 141 0 hm ?_ (ht:=(by with_unfolding_all exact Bq HL.out)))
   )
 go_ret
 exact ⟨rfl,hm.below⟩
theorem qJ (l:List Int) (s b n d:Int) (w0:World) (hl:l.length=258) (hb:b=4\/b=5) (hs:s=0) (n0:0<=n) (n1:n<=15) (hk:Known l s) (hd:d=0):Calls Tryz.prog 167 #[.agg (TS l s b n d)] w0 (fun e w'=>(e=.returned (.bool true))/\Below w0.heap.size w0 w'):=by
 have CB:=Lib.hid (fun w=>XB l s b n d hl (by omega) w)
 have CK:=Lib.hid (fun w=>Oa l s b n d w hl hk)
 have HL:=Lib.hid hl
 have w1:wi b 4 5=true:=Eu (by omega) (by omega)
 have w2:wi s 0 258=true:=Eu (by omega) (by omega)
 have w3:wi n 0 15=true:=Eu n0 n1
 have w4:wi d 0 2=true:=Eu (by omega) (by omega)
 subst hs hd
 clear hb n0 n1 hk hl
 go_enter Tryz.func167,Tryz.ntmps167
 have hm:=Own.nil w0
 go_wp2_with (first
  |(go_at_call 209;refine cB (CB.out _) hm ?_;clear hm;intro w1 hm)
  |(go_at_call 211;refine cB (CK.out _) hm ?_;clear hm;intro w1 hm)
  |(go_at_call 210;refine (JH _ _ _ _).mono ?_;rintro e w1 ⟨rfl,rfl⟩)
  |(with_reducible refine wb hm ?_;clear hm;intro w g hm)
  |(with_reducible refine wl 3 0 hm ?_ (hv:=(by with_unfolding_all (first|exact (CJ HL.out)|exact (Cb HL.out)|exact (CQ HL.out)|exact (E8 HL.out)))))
  |(with_reducible refine wla 141 0 hm ?_ (ht:=(by with_unfolding_all exact Bq HL.out)))
   )
 go_ret
 exact ⟨rfl,hm.below⟩
theorem qI (l:List Int) (s b n d:Int) (w0:World) (hl:l.length=258) (hb:b=4\/b=5) (hs:s=0) (n0:0<=n) (n1:n<=15) (hk:Known l s) (hd:d=1) (hn:0 < n):Calls Tryz.prog 167 #[.agg (TS l s b n d)] w0 (fun e w'=>(e=.returned (.bool true))/\Below w0.heap.size w0 w'):=by
 have CB:=Lib.hid (fun w=>XB l s b n d hl (by omega) w)
 have CK:=Lib.hid (fun w=>Oa l s b n d w hl hk)
 have HL:=Lib.hid hl
 have w1:wi b 4 5=true:=Eu (by omega) (by omega)
 have w2:wi s 0 258=true:=Eu (by omega) (by omega)
 have w3:wi n 0 15=true:=Eu n0 n1
 have w4:wi d 0 2=true:=Eu (by omega) (by omega)
 have q:decide (0 < n)=true:=decide_eq_true hn
 subst hs hd
 clear hb n0 n1 hk hl hn
 go_enter Tryz.func167,Tryz.ntmps167
 have hm:=Own.nil w0
 go_wp2_with (first
  |(go_at_call 209;refine cB (CB.out _) hm ?_;clear hm;intro w1 hm)
  |(go_at_call 211;refine cB (CK.out _) hm ?_;clear hm;intro w1 hm)
  |(go_at_call 210;refine (JH _ _ _ _).mono ?_;rintro e w1 ⟨rfl,rfl⟩)
  |(with_reducible refine wb hm ?_;clear hm;intro w g hm)
  |(with_reducible refine wl 3 0 hm ?_ (hv:=(by with_unfolding_all (first|exact (CJ HL.out)|exact (Cb HL.out)|exact (CQ HL.out)|exact (E8 HL.out)))))
  |(with_reducible refine wla 141 0 hm ?_ (ht:=(by with_unfolding_all exact Bq HL.out)))
   )
 go_ret
 exact ⟨rfl,hm.below⟩
theorem qH (l:List Int) (s b n d:Int) (w0:World) (hl:l.length=258) (hb:b=4\/b=5) (hs:s=0) (n0:0<=n) (n1:n<=15) (hk:Known l s) (hd:d=2) (hn:n < 15):Calls Tryz.prog 167 #[.agg (TS l s b n d)] w0 (fun e w'=>(e=.returned (.bool true))/\Below w0.heap.size w0 w'):=by
 have CB:=Lib.hid (fun w=>XB l s b n d hl (by omega) w)
 have CK:=Lib.hid (fun w=>Oa l s b n d w hl hk)
 have HL:=Lib.hid hl
 have w1:wi b 4 5=true:=Eu (by omega) (by omega)
 have w2:wi s 0 258=true:=Eu (by omega) (by omega)
 have w3:wi n 0 15=true:=Eu n0 n1
 have w4:wi d 0 2=true:=Eu (by omega) (by omega)
 have q:decide (n < 15)=true:=decide_eq_true hn
 subst hs hd
 clear hb n0 n1 hk hl hn
 go_enter Tryz.func167,Tryz.ntmps167
 have hm:=Own.nil w0
 go_wp2_with (first
  |(go_at_call 209;refine cB (CB.out _) hm ?_;clear hm;intro w1 hm)
  |(go_at_call 211;refine cB (CK.out _) hm ?_;clear hm;intro w1 hm)
  |(go_at_call 210;refine (JH _ _ _ _).mono ?_;rintro e w1 ⟨rfl,rfl⟩)
  |(with_reducible refine wb hm ?_;clear hm;intro w g hm)
  |(with_reducible refine wl 3 0 hm ?_ (hv:=(by with_unfolding_all (first|exact (CJ HL.out)|exact (Cb HL.out)|exact (CQ HL.out)|exact (E8 HL.out)))))
  |(with_reducible refine wla 141 0 hm ?_ (ht:=(by with_unfolding_all exact Bq HL.out)))
   )
 go_ret
 exact ⟨rfl,hm.below⟩
theorem kP (l:List Int) (k:Nat) (b n d:Int) (w0:World) (hl:l.length=258) (hb:b=4\/b=5) (hk0:k+1 < 258) (n0:0<=n) (n1:n<=15) (d0:0<=d/\d<=2) (hk:Known l (k+1)) (ht:turn (gi l k) n d=true):Calls Tryz.prog 167 #[.agg (TS l (k+1) b n d)] w0 (fun e w'=>(e=.returned (.bool true))/\Below w0.heap.size w0 w'):=by
 have CB:=Lib.hid (fun w=>XB l (k+1) b n d hl (by omega) w)
 have CK:=Lib.hid (fun w=>Oa l (k+1) b n d w hl hk)
 have HL:=Lib.hid hl
 have w1:wi b 4 5=true:=Eu (by omega) (by omega)
 have w2:wi (k+1) 0 258=true:=Eu (by omega) (by omega)
 have w3:wi n 0 15=true:=Eu n0 n1
 have w4:wi d 0 2=true:=Eu (by omega) (by omega)
 have q1:((k:Int)+1 == 0)=false:=by simp;omega
 have q2:((k:Int)+1 == 258)=false:=by simp;omega
 have e1:IntKind.i64.wrap ((k:Int)+1 - 1)=k:=by rw [IntWalk.i64_in _ (by omega)];omega
 have CT:Hid (∀ w,Calls Tryz.prog 212 #[.int .i64 (gi l k),.int .i64 n,.int .i64 d] w fun e w'=>(e=.returned (.bool true))/\w'=w):=Lib.hid fun w=>by have:=aO (gi l k) n d w;rwa [ht] at this
 have hk1:k < 258:=by omega
 have hx:=(hk k hk1).1
 have e2:IntKind.i64.wrap (gi l k)=gi l k:=IntWalk.i64_in _ (by have:=(hk k hk1).2;omega)
 have HG:=Lib.hid (A0X (s:=(k:Int)+1) (b:=b) (n:=n) (d:=d) hl k hk1)
 clear hb n0 n1 hk hl hk0 ht d0
 generalize gi l k=x at *
 go_enter Tryz.func167,Tryz.ntmps167
 have hm:=Own.nil w0
 go_upto_region 10 with (first
  |(go_at_call 209;refine cB (CB.out _) hm ?_;clear hm;intro w1 hm)
  |(go_at_call 211;refine cB (CK.out _) hm ?_;clear hm;intro w1 hm)
  |(go_at_call 210;refine (JH _ _ _ _).mono ?_;rintro e w1 ⟨rfl,rfl⟩)
  |(with_reducible refine wb hm ?_;clear hm;intro w g hm)
  |(with_reducible refine wl 3 0 hm ?_ (hv:=(by with_unfolding_all (first|exact (CJ HL.out)|exact (Cb HL.out)|exact (CQ HL.out)|exact (E8 HL.out)))))
  |(with_reducible refine wla 141 0 hm ?_ (ht:=(by with_unfolding_all exact Bq HL.out)))
   )
 refine rO hm 11 (.rds [(0,false),(1,true),(2,false),(3,false),(4,false),(5,true),(6,false),(7,false),(8,true),(9,false),(10,true)] (.brk 11 13 (.rds [(12,false)] .done))) ?_
 clear hm
 intro w hm
 simp only [KT.rds]
 refine kq ?_
 refine km (fun W hm=>ld 0 hm rfl rfl rfl (ot rfl) (CJ HL.out)) ?_
 (refine K_p rfl rfl (fun W=>by go_simp;((rw [IntWalk.i64_in _ (by omega)];done))) ?_)
 try simp only [Act.put,s3]
 refine kq ?_
 (refine K_p rfl rfl (fun W=>by go_simp;rw [if_pos (by omega)]) ?_)
 try simp only [Act.put,s3]
 refine km (fun W hm=>ld 0 hm rfl rfl rfl (ot rfl) HG.out) ?_
 iterate 2 refine kq ?_
 refine km (fun W hm=>ld 0 hm rfl rfl rfl (ot rfl) (CQ HL.out)) ?_
 refine kq ?_
 refine km (fun W hm=>ld 0 hm rfl rfl rfl (ot rfl) (E8 HL.out)) ?_
 refine PO rfl rfl (fun K hK=>?_)
 go_simp
 refine (CT.out _).mono ?_
 rintro e w1 ⟨rfl,rfl⟩
 refine hK _ _ ⟨fun W=>Own _ W _ _,hm,?_⟩
 clear hK K
 refine kq ?_
 refine Ba ?_
 go_simp
 go_wp2
 go_ret
 exact ⟨rfl,hm.below⟩
end Go.Proofs.YtkpbhdhkdonghaaGreat
