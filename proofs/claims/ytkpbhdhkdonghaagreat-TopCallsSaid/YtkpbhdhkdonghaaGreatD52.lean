/-
  Part 52 of the proof.
-/
import Derived.Test.YtkpbhdhkdonghaaGreatD10
import Derived.Test.YtkpbhdhkdonghaaGreatD42
import Derived.Test.YtkpbhdhkdonghaaGreatD44
import Derived.Test.YtkpbhdhkdonghaaGreatD45
import Derived.Test.YtkpbhdhkdonghaaGreatD46
import Derived.Test.YtkpbhdhkdonghaaGreatD47
import Derived.Test.YtkpbhdhkdonghaaGreatD48
import Derived.Test.YtkpbhdhkdonghaaGreatD49
import Derived.Test.YtkpbhdhkdonghaaGreatD50
import Derived.Test.YtkpbhdhkdonghaaGreatD51
set_option linter.all false
namespace Go.Proofs.YtkpbhdhkdonghaaGreat
set_option maxRecDepth 100000
open Go Tryz Go.RowKit
variable {h h':AH} {Hs:List (Nat × AO)} {N nt:Nat} {P:Program}
theorem bg {y:Option (Tm × AH)} {T:List (Nat × Value)} (hc:Ko y T Hs N=true):∃ t h,y=some (t,h)/\Wu t (Fa T)=true/\N=h.n/\Ls h Hs=true:=by
 unfold Ko at hc;split at hc
 ·rename_i t1 h1;obtain ⟨q1,q2,q3⟩:=TQ hc;exact ⟨t1,h1,rfl,q1,(n_q q2).symm,q3⟩
 ·cases hc
theorem Dj.partM {c:Code} {t t':Tm} {x:AX} {T:List (Nat × Value)} (q:Dj P nt c (Fa T) ⟨layAll .nil Hs,N⟩ x t' h') (q1:Wu t (Fa T)=true) (q2:N=h.n) (q3:Ls h Hs=true):Dj P nt c t h x t' h':=by
 have hm:=KQ q3;refine q.part (fun i _=>QH q1 _) q2 fun k o hk ho=>?_;rcases Fb .nil (fun k o hm'=>(hm k o hm').2) k o hk ho with h1|⟨_,h2⟩
 ·exact (hm k o h1).1
 ·rw [QS] at h2;cases h2
def V12:L_:=[.slice (some ⟨5633,0,none⟩) 6 NOM,w8 3,w6 0,.bool true]
def K12:List (Nat × AO):=[(2982,.row Jc 1),(5633,.row OA 1)]
theorem XR:∃ h1,Lc prog 12 A12 ⟨layAll .nil H12,2983⟩ (.tuple V12.toArray) h1/\h1.n=5776/\hasAll h1 K12=true:=by
 obtain ⟨t,h,h1,q1,q2,q3,q4⟩:=Zr qP;refine ⟨h1,?_,q3,q4⟩
 have L:Dj prog 105 J5 (Fa T_0) ⟨layAll .nil H_0,N_0⟩ .ret t h :=
  .next OX A1I (.next OX A1H (.next OX zq (.next OX zo (.next OX zn (.next OX zl (.next OX zk (.of OX q1)))))))
 have C:Ea prog 105 U0 (ainit A12 0 .nil) ⟨layAll .nil H12,2983⟩ .ret t h:=by
  obtain ⟨t0,h0,p1,p2,p3,p4⟩:=bg aP;refine Ea.chain OX 5 p1 ?_;rw [mW];exact .og (.loop (Dj.partM L p2 p3 p4))
 exact Lc.body (fn:=f12) func12 o9 (by decide) (by decide) C q2
noncomputable def sumF:QG:=fun D f args h=>cond (Nat.beq f 16) (SE A16 H16 2 V16 2983 K16 args h) (cond (Nat.beq f 12) (SE A12 H12 2983 V12 5776 K12 args h)
 (cond (Nat.beq f 32) (SE A32 H32 5777 V32 6037 K32 args h) (cond (Nat.beq f 14) (uT A14 H14 6038 true 7182 args h) (aU D f args h))))
theorem zB:N8 prog sumF:=by
 intro D hD f args h v h' hx w0 e w args' hv hr;unfold sumF at hx;cases h1:Nat.beq f 16 with
|true=>rw [h1] at hx;obtain rfl:=n_q h1;exact YH (Qx NS 100000) uX hx hv hr
|false =>
 rw [h1] at hx;cases h2:Nat.beq f 12 with
|true=>rw [h2] at hx;obtain rfl:=n_q h2;exact uQ XR hx hv hr
|false =>
 rw [h2] at hx;cases h3:Nat.beq f 32 with
|true=>rw [h3] at hx;obtain rfl:=n_q h3;exact YH (Qx NS 100000) qM hx hv hr
|false =>
 rw [h3] at hx;cases h4:Nat.beq f 14 with
|true=>rw [h4] at hx;obtain rfl:=n_q h4;exact uS (Qx NS 100000) kQ hx hv hr
|false =>
 rw [h4] at hx;exact NS D hD f args h v h' hx w0 e w args' hv hr
noncomputable def isTrue (x:Option (Value × AH)):Bool:=match x with
|some (.bool b,_)=>b
|_=>false
theorem YZ {x:Option (Value × AH)} (h:isTrue x=true):∃ h1,x=some (.bool true,h1):=by
 unfold isTrue at h;split at h
 ·rename_i b h1;subst h;exact ⟨h1,rfl⟩
 ·cases h
theorem mX:isTrue ((ai prog sumF 3000).call 9 [] ⟨.nil,0⟩)=true:=by kernel_rfl
theorem O9 (w:World):Calls prog 9 #[] w (RB w (.bool true)):=by
 obtain ⟨h1,q⟩:=YZ mX;exact A0O zB q w
end Go.Proofs.YtkpbhdhkdonghaaGreat
