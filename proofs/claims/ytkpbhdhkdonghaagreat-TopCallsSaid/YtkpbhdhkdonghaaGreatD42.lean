/-
  Part 42 of the proof.
-/
import Derived.Test.YtkpbhdhkdonghaaGreatD41
set_option linter.all false
namespace Go.Proofs.YtkpbhdhkdonghaaGreat
set_option maxRecDepth 100000
open Go Tryz Go.RowKit
variable {h h':AH} {w0:Base} {b:Bool} {e:En} {Hs:List (Nat × AO)} {A args args':L_} {N n:Nat} {P:Program} {w:World}
noncomputable def O8 (x:Option (Value × AH)) (b:Bool) (n:Nat):Bool:=match x with
|some (.bool c,h1)=>cond (Bool.rec (Bool.rec true false c) (Bool.rec false true c) b) (Nat.beq h1.n n) false
|_=>false
theorem UD {x:Option (Value × AH)} (h:O8 x b n=true):∃ h1,x=some (.bool b,h1)/\h1.n=n:=by
 unfold O8 at h;split at h
 ·rename_i c h1;cases b<;>cases c<;>first|(cases h;done)|exact ⟨h1,rfl,n_q h⟩
 ·cases h
noncomputable def uT (A:L_) (Hs:List (Nat × AO)) (N:Nat) (b:Bool) (n:Nat) (args:L_) (h:AH):Option (Option (Value × AH)) :=
 cond (Ky args A) (cond (Nat.beq h.n N) (cond (hasAll h Hs) (some (some (.bool b,⟨I4 h.t Hs,n⟩))) none) none) none
theorem uS {D:AI} (hD:∀ w0,Kt P D w0) {f:FuncId} (hchk:O8 (D.call f A ⟨layAll .nil Hs,N⟩) b n=true)
  {v:Value} (hx:uT A Hs N b n args h=some (some (v,h'))) (hv:VRs e args args') (hr:HX e h w0 w) :
  Calls P f args'.toArray w fun x w'=>∃ u e',x=.returned u/\e.le e'/\VR e' v u/\HX e' h' w0 w':=by
 unfold uT at hx;cases h1:Ky args A with
|false=>rw [h1] at hx;cases hx
|true =>
  rw [h1] at hx;have:=Gw h1;subst this;cases h2:Nat.beq h.n N with
 |false=>rw [h2] at hx;cases hx
 |true =>
   rw [h2] at hx;cases h3:hasAll h Hs with
  |false=>rw [h3] at hx;cases hx
  |true =>
    rw [h3] at hx;cases hx;obtain ⟨g1,q1,q2⟩:=UD hchk;have:=Vp (K:=[]) hD q1 h3 (n_q h2) rfl hv hr;rw [q2] at this;exact this
def A14:L_:=[.slice (some ⟨2982,0,none⟩) 55 NOM,.slice (some ⟨6037,0,none⟩) 6 6]
def H14:List (Nat × AO):=[(2982,.row Jc 1),(6037,.ro OA)]
theorem kQ:O8 ((ai prog aU 100000).call 14 A14 ⟨layAll .nil H14,6038⟩) true 7182=true:=by kernel_rfl
def A32:L_:=[.slice (some ⟨5776,0,none⟩) 6 6]
def H32:List (Nat × AO):=[(5776,.ro OA)]
def V32:L_:=[.slice (some ⟨6036,0,none⟩) 6 NOM,.int .i64 (.ofNat 4)]
def K32:List (Nat × AO):=[(6036,.row [.int .u8 (.ofNat 97),.int .u8 (.ofNat 110),.int .u8 (.ofNat 110),.int .u8 (.ofNat 98),.int .u8 (.ofNat 97),.int .u8 (.ofNat 97)] 1)]
theorem qM:Lj ((ai prog aU 100000).call 32 A32 ⟨layAll .nil H32,5777⟩) V32 6037 K32=true:=by kernel_rfl
end Go.Proofs.YtkpbhdhkdonghaaGreat
