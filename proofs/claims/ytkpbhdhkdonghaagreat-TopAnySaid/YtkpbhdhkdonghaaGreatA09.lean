/-
  Part 9 of the proof.
-/
import Derived.RangeFuncNested
import Derived.RangeFuncBound
import Derived.Shelf.Abstract
import Derived.OwnWalkIn
import Derived.TacticsInMore
import Derived.LoopNIn
import Derived.LoopIn
import Derived.Test.YtkpbhdhkdonghaaGreatA08
set_option linter.all false
set_option maxHeartbeats 1000000
set_option maxRecDepth 100000
namespace Go.Proofs.YtkpbhdhkdonghaaGreat
open Go Go.RowKit Go.Shelf
attribute [local go_sem] Oper.semAt_some
def dgF:Nat->Nat->I_
|0,_=>[]
|k+1,n=>if n=0 then [] else ((n - 1:Nat):Int) % 2::dgF k ((n - 1) / 2)
def dg (n:Nat):I_:=dgF n n
theorem Oh (k:Nat):dgF k 0=[]:=by cases k<;>simp [dgF]
theorem Zy:∀ (k n:Nat),n<=k->∀ j,n<=j->dgF k n=dgF j n
|0,n,hk,j,_=>by
  obtain rfl:n=0:=by omega
  rw [Oh,Oh]
|k+1,n,hk,j,hj=>by
  by_cases h0:n=0
  ·subst h0;rw [Oh,Oh]
  ·obtain ⟨j,rfl⟩:∃ i,j=i+1:=⟨j - 1,by omega⟩;rw [dgF,dgF,if_neg h0,if_neg h0,Zy k ((n - 1) / 2) (by omega) j (by omega)]
theorem Og:dg 0=[]:=rfl
theorem Xt (n:Nat) (h:0 < n):dg n=((n - 1:Nat):Int) % 2::dg ((n - 1) / 2):=by
 obtain ⟨k,rfl⟩:∃ k,n=k+1:=⟨n - 1,by omega⟩;rw [dg,dgF,if_neg (by omega),dg,Zy k ((k+1 - 1) / 2) (by omega) _ (Nat.le_refl _)]
theorem xP (q:Nat) (hq:q < 2 ^ 32):bits .and .i64 (q:Int) 1=((q % 2:Nat):Int):=by
 have h1:(BitVec.ofInt 64 (q:Int)).toNat=q:=by
  exact xet
 have h2:(BitVec.ofInt 64 (1:Int)).toNat=1:=rfl;show IntKind.i64.wrap ((BitVec.ofInt 64 (q:Int) &&& BitVec.ofInt 64 (1:Int)).toNat:Int)=_;rw [BitVec.toNat_and,h1,h2,Nat.and_one_is_mod,IntWalk.i64_in _ (by omega)]
open Go Tryz Go.RowKit
theorem w64 {n:Int} (h:-9223372036854775808<=n/\n<=9223372036854775807):wrap64 n=n:=by
 unfold wrap64;omega
def Ed (w:World) (v e:Int) (x:Ending) (w':World):Prop:=x=.returned (.tuple #[.int .i64 v,.int .i64 e])/\Below w.heap.size w w'
def Wj (n k d:Int):Prop:=0<=n/\n<=2147483647/\0<=k/\k<=30/\(d=0\/d=1)
instance (n k d:Int):Decidable (Wj n k d):=by unfold Wj;infer_instance
def QF (n k d:Int):Int:=n+(1+d) * 2 ^ k.toNat
def OJ (n k d:Int):Int:=if Wj n k d/\QF n k d<=2147483647 then QF n k d else 0
def ZU (n k d:Int):Int:=if Wj n k d/\QF n k d<=2147483647 then 0 else 2
theorem KF (k:Nat) (hk:k<=30):1<=(2:Int) ^ k/\(2:Int) ^ k<=1073741824:=by
 have h:=Nat.pow_le_pow_right (show 0 < 2 by omega) hk;have h0:0 < 2 ^ k:=Nat.pow_pos (by omega);have e:((2 ^ k:Nat):Int)=(2:Int) ^ k:=by push_cast;rfl
 rw [<- e];have e2:2 ^ 30=1073741824:=by decide
 omega
theorem A2S (n k d:Int) (w:World)  (g0:n < 0):Calls prog 216 #[.int .i64 n,.int .i64 k,.int .i64 d] w (Ed w 0 2):=xhn
theorem A2R (n k d:Int) (w:World) (g0:¬ n < 0) (g1:2147483647 < n):Calls prog 216 #[.int .i64 n,.int .i64 k,.int .i64 d] w (Ed w 0 2):=xhn
theorem A2Q (n k d:Int) (w:World) (g0:¬ n < 0) (g1:¬ 2147483647 < n) (g2:k < 0):Calls prog 216 #[.int .i64 n,.int .i64 k,.int .i64 d] w (Ed w 0 2):=xhn
theorem A2P (n k d:Int) (w:World) (g0:¬ n < 0) (g1:¬ 2147483647 < n) (g2:¬ k < 0) (g3:30 < k):Calls prog 216 #[.int .i64 n,.int .i64 k,.int .i64 d] w (Ed w 0 2):=xhn
theorem A2O (n k d:Int) (w:World) (g0:¬ n < 0) (g1:¬ 2147483647 < n) (g2:¬ k < 0) (g3:¬ 30 < k) (g4:¬ d=0) (g5:¬ d=1):Calls prog 216 #[.int .i64 n,.int .i64 k,.int .i64 d] w (Ed w 0 2):=by
 have b6:(d != 0)=true:=by simpa using g4
 have b7:(d != 1)=true:=by simpa using g5
 exact xhn
theorem A0V (n:Int) (k:Nat) (w:World) (b1:¬ n < 0) (b2:¬ 2147483647 < n) (hk:k<=30) (hs:¬ 2147483647 < n+2 ^ k):Calls prog 216 #[.int .i64 n,.int .i64 k,.int .i64 0] w (Ed w (n+2 ^ k) 0):=xh4
theorem A0W (n:Int) (k:Nat) (w:World) (b1:¬ n < 0) (b2:¬ 2147483647 < n) (hk:k<=30) (hs:2147483647 < n+2 ^ k):Calls prog 216 #[.int .i64 n,.int .i64 k,.int .i64 0] w (Ed w 0 2):=xh4
theorem A0T (n:Int) (k:Nat) (w:World) (b1:¬ n < 0) (b2:¬ 2147483647 < n) (hk:k<=30) (hs:¬ 2147483647 < n+2 * 2 ^ k):Calls prog 216 #[.int .i64 n,.int .i64 k,.int .i64 1] w (Ed w (n+2 * 2 ^ k) 0):=xh3
theorem A0U (n:Int) (k:Nat) (w:World) (b1:¬ n < 0) (b2:¬ 2147483647 < n) (hk:k<=30) (hs:2147483647 < n+2 * 2 ^ k):Calls prog 216 #[.int .i64 n,.int .i64 k,.int .i64 1] w (Ed w 0 2):=xh3
theorem add_any (n k d:Int) (w:World):Calls prog 216 #[.int .i64 n,.int .i64 k,.int .i64 d] w (Ed w (OJ n k d) (ZU n k d)):=by
 by_cases ha:Wj n k d
 ·obtain ⟨h1,h2,h3,h4,hd⟩:=ha;have ha:Wj n k d:=⟨h1,h2,h3,h4,hd⟩;obtain ⟨k,rfl⟩:=Int.eq_ofNat_of_zero_le h3;by_cases hs:QF n k d<=2147483647
  ·rw [OJ,ZU,if_pos ⟨ha,hs⟩,if_pos ⟨ha,hs⟩];rcases hd with rfl|rfl
   ·have e:QF n k 0=n+2 ^ k:=by simp [QF]
    rw [e] at hs ⊢;exact A0V n k w (by omega) (by omega) (by omega) (by omega)
   ·have e:QF n k 1=n+2 * 2 ^ k:=by simp [QF]
    rw [e] at hs ⊢;exact A0T n k w (by omega) (by omega) (by omega) (by omega)
  ·rw [OJ,ZU,if_neg (fun h=>hs h.2),if_neg (fun h=>hs h.2)];rcases hd with rfl|rfl
   ·have e:QF n k 0=n+2 ^ k:=by simp [QF]
    rw [e] at hs;exact A0W n k w (by omega) (by omega) (by omega) (by omega)
   ·have e:QF n k 1=n+2 * 2 ^ k:=by simp [QF]
    rw [e] at hs;exact A0U n k w (by omega) (by omega) (by omega) (by omega)
 ·rw [OJ,ZU,if_neg (fun h=>ha h.1),if_neg (fun h=>ha h.1)];by_cases g0:n < 0
  ·exact A2S n k d w g0
  by_cases g1:2147483647 < n
  ·exact A2R n k d w g0 g1
  by_cases g2:k < 0
  ·exact A2Q n k d w g0 g1 g2
  by_cases g3:30 < k
  ·exact A2P n k d w g0 g1 g2 g3
  exact A2O n k d w g0 g1 g2 g3 (fun h=>ha ⟨by omega,by omega,by omega,by omega,.inl h⟩) (fun h=>ha ⟨by omega,by omega,by omega,by omega,.inr h⟩)
open Go Go.RowKit
variable {a:Act} {ops:O_} {Q:Exit->P_} {i:Nat} {o:Oper} {P:Program} {w:World} {S:World->Prop}
theorem Ah {r:List (Nat × Bool)} {v:Value} (ho:ops.toList[i]?=some o) (hw:Region.wanted o (yielded ops a.tmps)=true)
  (hrun:∀ W,S W->(execOp a.eval o).run P W=.ok (.value v) W) (h:Ej P ops Q r S (a.put o.dst v) w):Ej P ops Q ((i,true)::r) S a w :=
 NZ (by rw [<- a_g];exact ho) hw hrun h
theorem iL {r:List (Nat × Bool)} (ho:ops.toList[i]?=some o) (hw:Region.wanted o (yielded ops a.tmps)=true)
  (h:∀ K:P_,(∀ a' w',(∃ S':World->Prop,(∀ W,S' W->S W)/\S' w'/\Ej P ops Q r S' a' w')->K a' w')->o.wp P a w K Q):Ej P ops Q ((i,false)::r) S a w :=
 WY (by rw [<- a_g];exact ho) hw h
end Go.Proofs.YtkpbhdhkdonghaaGreat
