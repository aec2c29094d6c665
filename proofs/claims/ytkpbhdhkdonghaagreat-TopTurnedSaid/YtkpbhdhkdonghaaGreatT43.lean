/-
  Part 43 of the proof.
-/
import Derived.Test.YtkpbhdhkdonghaaGreatT42
set_option linter.all false
namespace Go.Proofs.YtkpbhdhkdonghaaGreat
open Go Go.RowKit
noncomputable def memoChkB (x : Option (Value × AH)) (b : Bool) (n : Nat) : Bool := match x with
  | some (.bool c, h1) => cond (Bool.rec (Bool.rec true false c) (Bool.rec false true c) b) (Nat.beq h1.n n) false
  | _ => false
theorem memoChkB_some {x : Option (Value × AH)} {b : Bool} {n : Nat} (h : memoChkB x b n = true) : ∃ h1, x = some (.bool b, h1) ∧ h1.n = n := by
  unfold memoChkB at h
  split at h
  · rename_i c h1
    cases b <;> cases c <;> first | (cases h; done) | exact ⟨h1, rfl, Nat.eq_of_beq_eq_true h⟩
  · cases h
noncomputable def memoB (A : List Value) (Hs : List (Nat × AO)) (N : Nat) (b : Bool) (n : Nat) (args : List Value) (h : AH) : Option (Option (Value × AH)) :=
  cond (veqs args A) (cond (Nat.beq h.n N) (cond (hasAll h Hs) (some (some (.bool b, ⟨dropAll h.t Hs, n⟩))) none) none) none
theorem memoB_ok {P : Program} {D : AI} (hD : ∀ w0, AIOk P D w0) {f : FuncId} {A : List Value} {Hs : List (Nat × AO)} {N : Nat} {b : Bool} {n : Nat} (hchk : memoChkB (D.call f A ⟨layAll .nil Hs, N⟩) b n = true)
    {args : List Value} {h : AH} {v : Value} {h' : AH} (hx : memoB A Hs N b n args h = some (some (v, h'))) {w0 : Base} {e : En} {w : World} {args' : List Value} (hv : VRs e args args') (hr : HX e h w0 w) :
    Calls P f args'.toArray w fun x w' => ∃ u e', x = .returned u ∧ e.le e' ∧ VR e' v u ∧ HX e' h' w0 w' := by
  unfold memoB at hx
  cases h1 : veqs args A with
  | false => rw [h1] at hx; cases hx
  | true =>
    rw [h1] at hx
    have := veqs_eq h1
    subst this
    cases h2 : Nat.beq h.n N with
    | false => rw [h2] at hx; cases hx
    | true =>
      rw [h2] at hx
      cases h3 : hasAll h Hs with
      | false => rw [h3] at hx; cases hx
      | true =>
        rw [h3] at hx
        cases hx
        obtain ⟨g1, q1, q2⟩ := memoChkB_some hchk
        have := memo_call (K := []) hD q1 h3 (Nat.eq_of_beq_eq_true h2) rfl hv hr
        rw [q2] at this
        exact this
def A14 : List Value := [.slice (some ⟨2982, 0, none⟩) 55 NOM, .slice (some ⟨6037, 0, none⟩) 6 6]
def H14 : List (Nat × AO) := [(2982, .row strmV 1), (6037, .ro bananaV)]
set_option maxRecDepth 100000 in
theorem valid_chk : memoChkB ((ai Tryz.prog sumE 100000).call 14 A14 ⟨layAll .nil H14, 6038⟩) true 7182 = true := by kernel_rfl
def A32 : List Value := [.slice (some ⟨5776, 0, none⟩) 6 6]
def H32 : List (Nat × AO) := [(5776, .ro bananaV)]
def V32 : List Value := [.slice (some ⟨6036, 0, none⟩) 6 NOM, .int .i64 (.ofNat 4)]
def K32 : List (Nat × AO) := [(6036, .row [.int .u8 (.ofNat 97), .int .u8 (.ofNat 110), .int .u8 (.ofNat 110), .int .u8 (.ofNat 98), .int .u8 (.ofNat 97), .int .u8 (.ofNat 97)] 1)]
set_option maxRecDepth 100000 in
theorem turn_chk : memoChk ((ai Tryz.prog sumE 100000).call 32 A32 ⟨layAll .nil H32, 5777⟩) V32 6037 K32 = true := by kernel_rfl
end Go.Proofs.YtkpbhdhkdonghaaGreat
