/-
  Part 41 of the proof.
-/
import Derived.Test.YtkpbhdhkdonghaaGreatD40
set_option linter.all false
namespace Go.Proofs.YtkpbhdhkdonghaaGreat
set_option maxRecDepth 100000
open Go Tryz Go.RowKit
variable {h h':AH} {w0:Base} {e:En} {Hs K:List (Nat × AO)} {A args args':L_} {N n:Nat} {P:Program} {w:World}
noncomputable def Lj (x:Option (Value × AH)) (v:L_) (n:Nat) (K:List (Nat × AO)):Bool:=match x with
|some (.tuple vs,h1)=>cond (Ky vs.toList v) (cond (Nat.beq h1.n n) (hasAll h1 K) false) false
|_=>false
theorem O7 {x:Option (Value × AH)} {v:L_} (h:Lj x v n K=true):∃ h1,x=some (.tuple v.toArray,h1)/\h1.n=n/\hasAll h1 K=true:=by
 unfold Lj at h;split at h
 ·rename_i vs h1;cases hv:Ky vs.toList v with
 |false=>rw [hv] at h;cases h
 |true =>
   rw [hv] at h;cases hn:Nat.beq h1.n n with
  |false=>rw [hn] at h;cases h
  |true =>
    rw [hn] at h;exact ⟨h1,by rw [show vs=v.toArray from Array.ext' (by rw [Gw hv])],n_q hn,h⟩
 ·cases h
noncomputable def SE (A:L_) (Hs:List (Nat × AO)) (N:Nat) (v:L_) (n:Nat) (K:List (Nat × AO)) (args:L_) (h:AH):Option (Option (Value × AH)) :=
 cond (Ky args A) (cond (Nat.beq h.n N) (cond (hasAll h Hs) (some (some (.tuple v.toArray,⟨layAll (I4 h.t Hs) K,n⟩))) none) none) none
theorem YH {D:AI} (hD:∀ w0,Kt P D w0) {f:FuncId} {vs:L_} (hchk:Lj (D.call f A ⟨layAll .nil Hs,N⟩) vs n K=true)
  {v:Value} (hx:SE A Hs N vs n K args h=some (some (v,h'))) (hv:VRs e args args') (hr:HX e h w0 w) :
  Calls P f args'.toArray w fun x w'=>∃ u e',x=.returned u/\e.le e'/\VR e' v u/\HX e' h' w0 w':=by
 unfold SE at hx;cases h1:Ky args A with
|false=>rw [h1] at hx;cases hx
|true =>
  rw [h1] at hx;have:=Gw h1;subst this;cases h2:Nat.beq h.n N with
 |false=>rw [h2] at hx;cases hx
 |true =>
   rw [h2] at hx;cases h3:hasAll h Hs with
  |false=>rw [h3] at hx;cases hx
  |true =>
    rw [h3] at hx;cases hx;obtain ⟨g1,q1,q2,q3⟩:=O7 hchk;have:=Vp hD q1 h3 (n_q h2) q3 hv hr;rw [q2] at this;exact this
def OA:L_:=(nv .u8 [98,97,110,97,110,97])
def Jc:L_:=(nv .u8 [87,80,1,6,1,6,3,3,139,103,207,51,240,0,0,0,0,0,0,0,0,0,0,0,5,71,224,5,60,0,0,0,0,0,0,0,0,0,0,0,0,0,0,0,0,0,1,76,79,80,0,3,139,103,207])
def A16:L_:=[.int .i64 (.ofNat 6),.int .i64 (.ofNat 6),.slice (some ⟨1,0,none⟩) 1 1,.int .i64 (.ofNat 4)]
def H16:List (Nat × AO):=[(0,.ro OA),(1,.row [.slice (some ⟨0,0,none⟩) 6 6] 0)]
def V16:L_:=[.slice (some ⟨2982,0,none⟩) 55 NOM,.bool true]
def K16:List (Nat × AO):=[(2982,.row Jc 1)]
theorem uX:Lj ((ai prog aU 100000).call 16 A16 ⟨layAll .nil H16,2⟩) V16 2983 K16=true:=by kernel_rfl
end Go.Proofs.YtkpbhdhkdonghaaGreat
