/-
  Part 42 of the proof.
-/
import Derived.Test.YtkpbhdhkdonghaaGreatT41
set_option linter.all false
namespace Go.Proofs.YtkpbhdhkdonghaaGreat
open Go Go.RowKit
noncomputable def memoChk (x : Option (Value × AH)) (v : List Value) (n : Nat) (K : List (Nat × AO)) : Bool := match x with
  | some (.tuple vs, h1) => cond (veqs vs.toList v) (cond (Nat.beq h1.n n) (hasAll h1 K) false) false
  | _ => false
theorem memoChk_some {x : Option (Value × AH)} {v : List Value} {n : Nat} {K : List (Nat × AO)} (h : memoChk x v n K = true) : ∃ h1, x = some (.tuple v.toArray, h1) ∧ h1.n = n ∧ hasAll h1 K = true := by
  unfold memoChk at h
  split at h
  · rename_i vs h1
    cases hv : veqs vs.toList v with
    | false => rw [hv] at h; cases h
    | true =>
      rw [hv] at h
      cases hn : Nat.beq h1.n n with
      | false => rw [hn] at h; cases h
      | true =>
        rw [hn] at h
        exact ⟨h1, by rw [show vs = v.toArray from Array.ext' (by rw [veqs_eq hv])], Nat.eq_of_beq_eq_true hn, h⟩
  · cases h
noncomputable def memoT (A : List Value) (Hs : List (Nat × AO)) (N : Nat) (v : List Value) (n : Nat) (K : List (Nat × AO)) (args : List Value) (h : AH) : Option (Option (Value × AH)) :=
  cond (veqs args A) (cond (Nat.beq h.n N) (cond (hasAll h Hs) (some (some (.tuple v.toArray, ⟨layAll (dropAll h.t Hs) K, n⟩))) none) none) none
theorem memoT_ok {P : Program} {D : AI} (hD : ∀ w0, AIOk P D w0) {f : FuncId} {A : List Value} {Hs : List (Nat × AO)} {N : Nat} {vs : List Value} {n : Nat} {K : List (Nat × AO)} (hchk : memoChk (D.call f A ⟨layAll .nil Hs, N⟩) vs n K = true)
    {args : List Value} {h : AH} {v : Value} {h' : AH} (hx : memoT A Hs N vs n K args h = some (some (v, h'))) {w0 : Base} {e : En} {w : World} {args' : List Value} (hv : VRs e args args') (hr : HX e h w0 w) :
    Calls P f args'.toArray w fun x w' => ∃ u e', x = .returned u ∧ e.le e' ∧ VR e' v u ∧ HX e' h' w0 w' := by
  unfold memoT at hx
  cases h1 : veqs args A with
  | false => rw [h1] at hx; cases hx
  | true =>
    rw [h1] at hx
    have := veqs_eq h1
    subst this
    cases h2 : Nat.beq h.n N with
    | false => rw [h2] at hx; cases hx
    | true =>
      rw [h2] at hx
      cases h3 : hasAll h Hs with
      | false => rw [h3] at hx; cases hx
      | true =>
        rw [h3] at hx
        cases hx
        obtain ⟨g1, q1, q2, q3⟩ := memoChk_some hchk
        have := memo_call hD q1 h3 (Nat.eq_of_beq_eq_true h2) q3 hv hr
        rw [q2] at this
        exact this
def bananaV : List Value := [.int .u8 (.ofNat 98), .int .u8 (.ofNat 97), .int .u8 (.ofNat 110), .int .u8 (.ofNat 97), .int .u8 (.ofNat 110), .int .u8 (.ofNat 97)]
def strmV : List Value := [.int .u8 (.ofNat 87), .int .u8 (.ofNat 80), .int .u8 (.ofNat 1), .int .u8 (.ofNat 6), .int .u8 (.ofNat 1), .int .u8 (.ofNat 6), .int .u8 (.ofNat 3), .int .u8 (.ofNat 3), .int .u8 (.ofNat 139), .int .u8 (.ofNat 103), .int .u8 (.ofNat 207), .int .u8 (.ofNat 51), .int .u8 (.ofNat 240), .int .u8 (.ofNat 0), .int .u8 (.ofNat 0), .int .u8 (.ofNat 0), .int .u8 (.ofNat 0), .int .u8 (.ofNat 0), .int .u8 (.ofNat 0), .int .u8 (.ofNat 0), .int .u8 (.ofNat 0), .int .u8 (.ofNat 0), .int .u8 (.ofNat 0), .int .u8 (.ofNat 0), .int .u8 (.ofNat 5), .int .u8 (.ofNat 71), .int .u8 (.ofNat 224), .int .u8 (.ofNat 5), .int .u8 (.ofNat 60), .int .u8 (.ofNat 0), .int .u8 (.ofNat 0), .int .u8 (.ofNat 0), .int .u8 (.ofNat 0), .int .u8 (.ofNat 0), .int .u8 (.ofNat 0), .int .u8 (.ofNat 0), .int .u8 (.ofNat 0), .int .u8 (.ofNat 0), .int .u8 (.ofNat 0), .int .u8 (.ofNat 0), .int .u8 (.ofNat 0), .int .u8 (.ofNat 0), .int .u8 (.ofNat 0), .int .u8 (.ofNat 0), .int .u8 (.ofNat 0), .int .u8 (.ofNat 0), .int .u8 (.ofNat 1), .int .u8 (.ofNat 76), .int .u8 (.ofNat 79), .int .u8 (.ofNat 80), .int .u8 (.ofNat 0), .int .u8 (.ofNat 3), .int .u8 (.ofNat 139), .int .u8 (.ofNat 103), .int .u8 (.ofNat 207)]
def A16 : List Value := [.int .i64 (.ofNat 6), .int .i64 (.ofNat 6), .slice (some ⟨1, 0, none⟩) 1 1, .int .i64 (.ofNat 4)]
def H16 : List (Nat × AO) := [(0, .ro bananaV), (1, .row [.slice (some ⟨0, 0, none⟩) 6 6] 0)]
def V16 : List Value := [.slice (some ⟨2982, 0, none⟩) 55 NOM, .bool true]
def K16 : List (Nat × AO) := [(2982, .row strmV 1)]
set_option maxRecDepth 100000 in
theorem made_chk : memoChk ((ai Tryz.prog sumE 100000).call 16 A16 ⟨layAll .nil H16, 2⟩) V16 2983 K16 = true := by kernel_rfl
end Go.Proofs.YtkpbhdhkdonghaaGreat
