/-
  Part 40 of the proof.
-/
import Derived.Test.YtkpbhdhkdonghaaGreatT39
set_option linter.all false
namespace Go.Proofs.YtkpbhdhkdonghaaGreat
open Go Go.RowKit
def tallyV : List Value := [.int .i64 (.ofNat 1), .int .i64 (.ofNat 1), .int .i64 (.ofNat 0), .int .i64 (.ofNat 0), .int .i64 (.ofNat 0), .int .i64 (.ofNat 0), .int .i64 (.ofNat 0), .int .i64 (.ofNat 0), .int .i64 (.ofNat 0), .int .i64 (.ofNat 0), .int .i64 (.ofNat 0), .int .i64 (.ofNat 0), .int .i64 (.ofNat 0), .int .i64 (.ofNat 0), .int .i64 (.ofNat 0), .int .i64 (.ofNat 0), .int .i64 (.ofNat 0), .int .i64 (.ofNat 0), .int .i64 (.ofNat 0), .int .i64 (.ofNat 0), .int .i64 (.ofNat 0), .int .i64 (.ofNat 0), .int .i64 (.ofNat 0), .int .i64 (.ofNat 0), .int .i64 (.ofNat 0), .int .i64 (.ofNat 0), .int .i64 (.ofNat 0), .int .i64 (.ofNat 0), .int .i64 (.ofNat 0), .int .i64 (.ofNat 0), .int .i64 (.ofNat 0), .int .i64 (.ofNat 0), .int .i64 (.ofNat 0), .int .i64 (.ofNat 0), .int .i64 (.ofNat 0), .int .i64 (.ofNat 0), .int .i64 (.ofNat 0), .int .i64 (.ofNat 0), .int .i64 (.ofNat 0), .int .i64 (.ofNat 0), .int .i64 (.ofNat 0), .int .i64 (.ofNat 0), .int .i64 (.ofNat 0), .int .i64 (.ofNat 0), .int .i64 (.ofNat 0), .int .i64 (.ofNat 0), .int .i64 (.ofNat 0), .int .i64 (.ofNat 0), .int .i64 (.ofNat 0), .int .i64 (.ofNat 0), .int .i64 (.ofNat 0), .int .i64 (.ofNat 0), .int .i64 (.ofNat 0), .int .i64 (.ofNat 0), .int .i64 (.ofNat 0), .int .i64 (.ofNat 0), .int .i64 (.ofNat 0), .int .i64 (.ofNat 0), .int .i64 (.ofNat 0), .int .i64 (.ofNat 0), .int .i64 (.ofNat 0), .int .i64 (.ofNat 0), .int .i64 (.ofNat 0), .int .i64 (.ofNat 0), .int .i64 (.ofNat 0), .int .i64 (.ofNat 0), .int .i64 (.ofNat 0), .int .i64 (.ofNat 0), .int .i64 (.ofNat 0), .int .i64 (.ofNat 0), .int .i64 (.ofNat 0), .int .i64 (.ofNat 0), .int .i64 (.ofNat 0), .int .i64 (.ofNat 0), .int .i64 (.ofNat 0), .int .i64 (.ofNat 0), .int .i64 (.ofNat 0), .int .i64 (.ofNat 0), .int .i64 (.ofNat 0), .int .i64 (.ofNat 0), .int .i64 (.ofNat 0), .int .i64 (.ofNat 0), .int .i64 (.ofNat 0), .int .i64 (.ofNat 0), .int .i64 (.ofNat 0), .int .i64 (.ofNat 0), .int .i64 (.ofNat 0), .int .i64 (.ofNat 0), .int .i64 (.ofNat 0), .int .i64 (.ofNat 0), .int .i64 (.ofNat 0), .int .i64 (.ofNat 0), .int .i64 (.ofNat 0), .int .i64 (.ofNat 0), .int .i64 (.ofNat 0), .int .i64 (.ofNat 0), .int .i64 (.ofNat 0), .int .i64 (.ofNat 0), .int .i64 (.ofNat 0), .int .i64 (.ofNat 1), .int .i64 (.ofNat 1), .int .i64 (.ofNat 0), .int .i64 (.ofNat 0), .int .i64 (.ofNat 0), .int .i64 (.ofNat 0), .int .i64 (.ofNat 0), .int .i64 (.ofNat 0), .int .i64 (.ofNat 0), .int .i64 (.ofNat 0), .int .i64 (.ofNat 0), .int .i64 (.ofNat 0), .int .i64 (.ofNat 1), .int .i64 (.ofNat 0), .int .i64 (.ofNat 0), .int .i64 (.ofNat 0), .int .i64 (.ofNat 0), .int .i64 (.ofNat 0), .int .i64 (.ofNat 0), .int .i64 (.ofNat 0), .int .i64 (.ofNat 0), .int .i64 (.ofNat 0), .int .i64 (.ofNat 0), .int .i64 (.ofNat 0), .int .i64 (.ofNat 0), .int .i64 (.ofNat 0), .int .i64 (.ofNat 0), .int .i64 (.ofNat 0), .int .i64 (.ofNat 0), .int .i64 (.ofNat 0), .int .i64 (.ofNat 0), .int .i64 (.ofNat 0), .int .i64 (.ofNat 0), .int .i64 (.ofNat 0), .int .i64 (.ofNat 0), .int .i64 (.ofNat 0), .int .i64 (.ofNat 0), .int .i64 (.ofNat 0), .int .i64 (.ofNat 0), .int .i64 (.ofNat 0), .int .i64 (.ofNat 0), .int .i64 (.ofNat 0), .int .i64 (.ofNat 0), .int .i64 (.ofNat 0), .int .i64 (.ofNat 0), .int .i64 (.ofNat 0), .int .i64 (.ofNat 0), .int .i64 (.ofNat 0), .int .i64 (.ofNat 0), .int .i64 (.ofNat 0), .int .i64 (.ofNat 0), .int .i64 (.ofNat 0), .int .i64 (.ofNat 0), .int .i64 (.ofNat 0), .int .i64 (.ofNat 0), .int .i64 (.ofNat 0), .int .i64 (.ofNat 0), .int .i64 (.ofNat 0), .int .i64 (.ofNat 0), .int .i64 (.ofNat 0), .int .i64 (.ofNat 0), .int .i64 (.ofNat 0), .int .i64 (.ofNat 0), .int .i64 (.ofNat 0), .int .i64 (.ofNat 0), .int .i64 (.ofNat 0), .int .i64 (.ofNat 0), .int .i64 (.ofNat 0), .int .i64 (.ofNat 0), .int .i64 (.ofNat 0), .int .i64 (.ofNat 0), .int .i64 (.ofNat 0), .int .i64 (.ofNat 0), .int .i64 (.ofNat 0), .int .i64 (.ofNat 0), .int .i64 (.ofNat 0), .int .i64 (.ofNat 0), .int .i64 (.ofNat 0), .int .i64 (.ofNat 0), .int .i64 (.ofNat 0), .int .i64 (.ofNat 0), .int .i64 (.ofNat 0), .int .i64 (.ofNat 0), .int .i64 (.ofNat 0), .int .i64 (.ofNat 0), .int .i64 (.ofNat 0), .int .i64 (.ofNat 0), .int .i64 (.ofNat 0), .int .i64 (.ofNat 0), .int .i64 (.ofNat 0), .int .i64 (.ofNat 0), .int .i64 (.ofNat 0), .int .i64 (.ofNat 0), .int .i64 (.ofNat 0), .int .i64 (.ofNat 0), .int .i64 (.ofNat 0), .int .i64 (.ofNat 0), .int .i64 (.ofNat 0), .int .i64 (.ofNat 0), .int .i64 (.ofNat 0), .int .i64 (.ofNat 0), .int .i64 (.ofNat 0), .int .i64 (.ofNat 0), .int .i64 (.ofNat 0), .int .i64 (.ofNat 0), .int .i64 (.ofNat 0), .int .i64 (.ofNat 0), .int .i64 (.ofNat 0), .int .i64 (.ofNat 0), .int .i64 (.ofNat 0), .int .i64 (.ofNat 0), .int .i64 (.ofNat 0), .int .i64 (.ofNat 0), .int .i64 (.ofNat 0), .int .i64 (.ofNat 0), .int .i64 (.ofNat 0), .int .i64 (.ofNat 0), .int .i64 (.ofNat 0), .int .i64 (.ofNat 0), .int .i64 (.ofNat 0), .int .i64 (.ofNat 0), .int .i64 (.ofNat 0), .int .i64 (.ofNat 0), .int .i64 (.ofNat 0), .int .i64 (.ofNat 0), .int .i64 (.ofNat 0), .int .i64 (.ofNat 0), .int .i64 (.ofNat 0), .int .i64 (.ofNat 0), .int .i64 (.ofNat 0), .int .i64 (.ofNat 0), .int .i64 (.ofNat 0), .int .i64 (.ofNat 0), .int .i64 (.ofNat 0), .int .i64 (.ofNat 0), .int .i64 (.ofNat 0), .int .i64 (.ofNat 0), .int .i64 (.ofNat 0), .int .i64 (.ofNat 0), .int .i64 (.ofNat 0), .int .i64 (.ofNat 0), .int .i64 (.ofNat 0), .int .i64 (.ofNat 0), .int .i64 (.ofNat 0), .int .i64 (.ofNat 0), .int .i64 (.ofNat 0), .int .i64 (.ofNat 0), .int .i64 (.ofNat 0), .int .i64 (.ofNat 0), .int .i64 (.ofNat 0), .int .i64 (.ofNat 0), .int .i64 (.ofNat 0), .int .i64 (.ofNat 0), .int .i64 (.ofNat 0), .int .i64 (.ofNat 0), .int .i64 (.ofNat 0), .int .i64 (.ofNat 0), .int .i64 (.ofNat 0), .int .i64 (.ofNat 1)]
noncomputable def isTab (x : Option (Value × AH)) : Bool := match x with
  | some (.tuple vs, _) => (match vs.toList with
    | [.agg cs, y] => cond (eqQ cs.toList tabV) (eqQ1 y (.int .i64 (.ofNat 0))) false
    | _ => false)
  | _ => false
theorem isTab_some {x : Option (Value × AH)} (h : isTab x = true) : ∃ h1, x = some (.tuple [.agg tabV.toArray, .int .i64 (.ofNat 0)].toArray, h1) := by
  unfold isTab at h
  split at h
  · rename_i vs h1
    split at h
    · rename_i cs y hv
      cases hq : eqQ cs.toList tabV with
      | false => rw [hq] at h; cases h
      | true =>
        rw [hq] at h
        have e1 := eqQ_eq hq
        have e2 := eqQ1_eq (show eqQ1 y (.int .i64 (.ofNat 0)) = true from h)
        subst e2
        have e3 : cs = tabV.toArray := Array.ext' (by rw [e1])
        subst e3
        exact ⟨h1, by rw [show vs = [.agg tabV.toArray, .int .i64 (.ofNat 0)].toArray from Array.ext' (by rw [hv])]⟩
    · cases h
  · cases h
set_option maxRecDepth 100000 in
theorem lengths_tally : isTab ((ai Tryz.prog sumD 3000).call 156 [.agg tallyV.toArray, .int .i64 (.ofNat 15)] ⟨.nil, 0⟩) = true := by kernel_rfl
noncomputable def sum156 (args : List Value) (h : AH) : Option (Option (Value × AH)) := match args with
  | [.agg cs, .int .i64 (.ofNat m)] => cond (Nat.beq m 15) (cond (eqQ cs.toList tallyV) (tell (.tuple [.agg tabV.toArray, .int .i64 (.ofNat 0)].toArray) h) none) none
  | _ => none
theorem tally_flat : tallyV.all flat1 = true := by kernel_rfl
theorem tab_flat : tabV.all flat1 = true := by kernel_rfl
theorem sum156_ok {args : List Value} {h : AH} {v : Value} {h' : AH} (hx : sum156 args h = some (some (v, h'))) {w0 : Base} {e : En} {w : World} {args' : List Value} (hv : VRs e args args') (hr : HX e h w0 w) :
    Calls Tryz.prog 156 args'.toArray w fun x w' => ∃ u e', x = .returned u ∧ e.le e' ∧ VR e' v u ∧ HX e' h' w0 w' := by
  unfold sum156 at hx
  split at hx
  · rename_i cs m
    cases hm : Nat.beq m 15 with
    | false => rw [hm] at hx; cases hx
    | true =>
      rw [hm] at hx
      obtain rfl := Nat.eq_of_beq_eq_true hm
      cases hq : eqQ cs.toList tallyV with
      | false => rw [hq] at hx; cases hx
      | true =>
        rw [hq] at hx
        cases hx
        have e1 := eqQ_eq hq
        have e3 : cs = tallyV.toArray := Array.ext' (by rw [e1])
        subst e3
        obtain ⟨h2, q⟩ := isTab_some lengths_tally
        refine plain_call (ai_ok sumD_ok 3000) q ?_ ?_ hv hr
        · simp only [List.all_cons, List.all_nil, Bool.and_true, Bool.and_eq_true]
          exact ⟨tally_flat, rfl⟩
        · simp only [plainT, List.all_cons, List.all_nil, Bool.and_true, Bool.and_eq_true]
          exact ⟨tab_flat, rfl⟩
  · cases hx
noncomputable def sumE : ASum := fun D f args h => cond (Nat.beq f 156) (sum156 args h) (sumD D f args h)
theorem sumE_ok : SumOk Tryz.prog sumE := by
  intro D hD f args h v h' hx w0 e w args' hv hr
  unfold sumE at hx
  cases hb : Nat.beq f 156 with
  | true =>
    rw [hb] at hx
    obtain rfl := Nat.eq_of_beq_eq_true hb
    exact sum156_ok hx hv hr
  | false =>
    rw [hb] at hx
    exact sumD_ok D hD f args h v h' hx w0 e w args' hv hr
end Go.Proofs.YtkpbhdhkdonghaaGreat
