/-
  Part 38 of the proof.
-/
import Derived.Test.YtkpbhdhkdonghaaGreatD37
set_option linter.all false
namespace Go.Proofs.YtkpbhdhkdonghaaGreat
open Go Tryz Go.RowKit
variable {h h':AH} {w0:Base} {e:En} {args args' l:L_} {w:World}
noncomputable def jr (x:Option (Value × AH)) (l:L_):Bool:=match x with
|some (.tuple vs,_)=>eqQ vs.toList l
|_=>false
theorem Ti {x:Option (Value × AH)} (h:jr x l=true):∃ h1,x=some (.tuple l.toArray,h1):=by
 unfold jr at h;split at h
 ·rename_i vs h1;refine ⟨h1,?_⟩;have:=PI h;rw [show vs=l.toArray from Array.ext' (by rw [this])]
 ·cases h
theorem A2E:jr ((ai prog qX 3000).call 42 [.int .i64 (.ofNat 6),.int .u8 (.ofNat 1)] ⟨.nil,0⟩) [.int .i64 (.ofNat 8483),.int .i64 (.ofNat 0)]=true:=by kernel_rfl
theorem A2F:jr ((ai prog qX 3000).call 42 [.int .i64 (.ofNat 6),.int .u8 (.ofNat 0)] ⟨.nil,0⟩) [.int .i64 (.ofNat 0),.int .i64 (.ofNat 2)]=true:=by kernel_rfl
noncomputable def rC (args:L_) (h:AH):Option (Option (Value × AH)):=match args with
|[.int .i64 (.ofNat n),.int .u8 (.ofNat m)]=>cond (Nat.beq n 6) (cond (Nat.beq m 1) (tell (.tuple [.int .i64 (.ofNat 8483),.int .i64 (.ofNat 0)].toArray) h) (cond (Nat.beq m 0) (tell (.tuple [.int .i64 (.ofNat 0),.int .i64 (.ofNat 2)].toArray) h) none)) none
|_=>none
theorem ru {v:Value} (hx:rC args h=some (some (v,h'))) (hv:VRs e args args') (hr:HX e h w0 w) :
  Calls prog 42 args'.toArray w fun x w'=>∃ u e',x=.returned u/\e.le e'/\VR e' v u/\HX e' h' w0 w':=by
 unfold rC at hx;split at hx
 ·rename_i n m;cases hn:Nat.beq n 6 with
 |false=>rw [hn] at hx;cases hx
 |true =>
   rw [hn] at hx;obtain rfl:=n_q hn;cases h1:Nat.beq m 1 with
  |true =>
    rw [h1] at hx;obtain rfl:=n_q h1;cases hx;obtain ⟨h2,q⟩:=Ti A2E;exact Nl (Qx Wy 3000) q rfl rfl hv hr
  |false =>
    rw [h1] at hx;cases h0:Nat.beq m 0 with
   |true =>
     rw [h0] at hx;obtain rfl:=n_q h0;cases hx;obtain ⟨h2,q⟩:=Ti A2F;exact Nl (Qx Wy 3000) q rfl rfl hv hr
   |false=>rw [h0] at hx;cases hx
 ·cases hx
noncomputable def zC:QG:=fun D f args h=>cond (Nat.beq f 42) (rC args h) (qX D f args h)
theorem iw:N8 prog zC:=by
 intro D hD f args h v h' hx w0 e w args' hv hr;unfold zC at hx;cases hb:Nat.beq f 42 with
|true =>
  rw [hb] at hx;obtain rfl:=n_q hb;exact ru hx hv hr
|false =>
  rw [hb] at hx;exact Wy D hD f args h v h' hx w0 e w args' hv hr
end Go.Proofs.YtkpbhdhkdonghaaGreat
