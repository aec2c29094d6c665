/-
  Part 39 of the proof.
-/
import Derived.Test.YtkpbhdhkdonghaaGreatD38
set_option linter.all false
namespace Go.Proofs.YtkpbhdhkdonghaaGreat
set_option maxRecDepth 100000
open Go Tryz Go.RowKit
def Rn:L_:=(nv .i64 [1,1,0,0,0,0,0,0,0,0,0,0,0,0,0,0,0,0,0,0,0,0,0,0,0,0,0,0,0,0,0,0,0,0,0,0,0,0,0,0,0,0,0,0,0,0,0,0,0,0,0,0,0,0,0,0,0,0,0,0,0,0,0,0,0,0,0,0,0,0,0,0,0,0,0,0,0,0,0,0,0,0,0,0,0,0,0,0,0,0,0,0,0,0,0,0,0,0,0,1,1,0,0,0,0,0,0,0,0,0,0,1,0,0,0,0,0,0,0,0,0,0,0,0,0,0,0,0,0,0,0,0,0,0,0,0,0,0,0,0,0,0,0,0,0,0,0,0,0,0,0,0,0,0,0,0,0,0,0,0,0,0,0,0,0,0,0,0,0,0,0,0,0,0,0,0,0,0,0,0,0,0,0,0,0,0,0,0,0,0,0,0,0,0,0,0,0,0,0,0,0,0,0,0,0,0,0,0,0,0,0,0,0,0,0,0,0,0,0,0,0,0,0,0,0,0,0,0,0,0,0,0,0,0,0,0,0,0,0,0,0,0,0,0,0,0,0,0,0,0,0,0,0,0,0,0,0,1])
noncomputable def vJ (x:Option (Value × AH)):Bool:=match x with
|some (.tuple vs,_)=>(match vs.toList with
 |[.agg cs,y]=>cond (eqQ cs.toList KA) (nN y (.int .i64 (.ofNat 0))) false
 |_=>false)
|_=>false
theorem dR {x:Option (Value × AH)} (h:vJ x=true):∃ h1,x=some (.tuple [.agg KA.toArray,.int .i64 (.ofNat 0)].toArray,h1):=by
 unfold vJ at h;split at h
 ·rename_i vs h1;split at h
  ·rename_i cs y hv;cases hq:eqQ cs.toList KA with
  |false=>rw [hq] at h;cases h
  |true =>
    rw [hq] at h;have e1:=PI hq;have e2:=jC (show nN y (.int .i64 (.ofNat 0))=true from h);subst e2;have e3:cs=KA.toArray:=Array.ext' (by rw [e1]);subst e3;exact ⟨h1,by rw [show vs=[.agg KA.toArray,.int .i64 (.ofNat 0)].toArray from Array.ext' (by rw [hv])]⟩
  ·cases h
 ·cases h
theorem UF:vJ ((ai prog zC 3000).call 156 [.agg Rn.toArray,.int .i64 (.ofNat 15)] ⟨.nil,0⟩)=true:=by kernel_rfl
noncomputable def aX (args:L_) (h:AH):Option (Option (Value × AH)):=match args with
|[.agg cs,.int .i64 (.ofNat m)]=>cond (Nat.beq m 15) (cond (eqQ cs.toList Rn) (tell (.tuple [.agg KA.toArray,.int .i64 (.ofNat 0)].toArray) h) none) none
|_=>none
theorem aQ:Rn.all BM=true:=by kernel_rfl
theorem qV:KA.all BM=true:=by kernel_rfl
theorem kW {args:L_} {h:AH} {v:Value} {h':AH} (hx:aX args h=some (some (v,h'))) {w0:Base} {e:En} {w:World} {args':L_} (hv:VRs e args args') (hr:HX e h w0 w) :
  Calls prog 156 args'.toArray w fun x w'=>∃ u e',x=.returned u/\e.le e'/\VR e' v u/\HX e' h' w0 w':=by
 unfold aX at hx;split at hx
 ·rename_i cs m;cases hm:Nat.beq m 15 with
 |false=>rw [hm] at hx;cases hx
 |true =>
   rw [hm] at hx;obtain rfl:=n_q hm;cases hq:eqQ cs.toList Rn with
  |false=>rw [hq] at hx;cases hx
  |true =>
    rw [hq] at hx;cases hx;have e1:=PI hq;have e3:cs=Rn.toArray:=Array.ext' (by rw [e1]);subst e3;obtain ⟨h2,q⟩:=dR UF;refine Nl (Qx iw 3000) q ?_ ?_ hv hr
    ·simp only [List.all_cons,List.all_nil,Bool.and_true,b_t];exact ⟨aQ,rfl⟩
    ·simp only [Nr,List.all_cons,List.all_nil,Bool.and_true,b_t];exact ⟨qV,rfl⟩
 ·cases hx
noncomputable def aU:QG:=fun D f args h=>cond (Nat.beq f 156) (aX args h) (zC D f args h)
theorem NS:N8 prog aU:=by
 intro D hD f args h v h' hx w0 e w args' hv hr;unfold aU at hx;cases hb:Nat.beq f 156 with
|true =>
  rw [hb] at hx;obtain rfl:=n_q hb;exact kW hx hv hr
|false =>
  rw [hb] at hx;exact iw D hD f args h v h' hx w0 e w args' hv hr
end Go.Proofs.YtkpbhdhkdonghaaGreat
