/-
  Part 53 of the proof.
-/
import Derived.Test.YtkpbhdhkdonghaaGreatT43
import Derived.Test.YtkpbhdhkdonghaaGreatT45
import Derived.Test.YtkpbhdhkdonghaaGreatT46
import Derived.Test.YtkpbhdhkdonghaaGreatT47
import Derived.Test.YtkpbhdhkdonghaaGreatT48
import Derived.Test.YtkpbhdhkdonghaaGreatT49
import Derived.Test.YtkpbhdhkdonghaaGreatT50
import Derived.Test.YtkpbhdhkdonghaaGreatT51
import Derived.Test.YtkpbhdhkdonghaaGreatT52
set_option linter.all false
namespace Go.Proofs.YtkpbhdhkdonghaaGreat
open Go Go.RowKit
theorem stChk_some {y : Option (Tm × AH)} {T : List (Nat × Value)} {Hs : List (Nat × AO)} {N : Nat} (hc : stChk y T Hs N = true) : ∃ t h, y = some (t, h) ∧ tmEq t (slotsT T) = true ∧ N = h.n ∧ hasAllM h Hs = true := by
  unfold stChk at hc
  split at hc
  · rename_i t1 h1
    obtain ⟨q1, q2, q3⟩ := cond3 hc
    exact ⟨t1, h1, rfl, q1, (Nat.eq_of_beq_eq_true q2).symm, q3⟩
  · cases hc
theorem LoopAt.partM {P : Program} {nt : Nat} {c : Code} {t t' : Tm} {h h' : AH} {x : AX} {T : List (Nat × Value)} {Hs : List (Nat × AO)} {N : Nat} (q : LoopAt P nt c (slotsT T) ⟨layAll .nil Hs, N⟩ x t' h') (q1 : tmEq t (slotsT T) = true) (q2 : N = h.n) (q3 : hasAllM h Hs = true) : LoopAt P nt c t h x t' h' := by
  have hm := hasAllM_mem q3
  refine q.part (fun i _ => tmEq_at q1 _) q2 fun k o hk ho => ?_
  rcases layAll_get .nil (fun k o hm' => (hm k o hm').2) k o hk ho with h1 | ⟨_, h2⟩
  · exact (hm k o h1).1
  · rw [nil_get] at h2; cases h2
def V12 : List Value := [.slice (some ⟨5633, 0, none⟩) 6 NOM, w8 3, w6 0, .bool true]
def K12 : List (Nat × AO) := [(2982, .row strmV 1), (5633, .row bananaV 1)]
theorem told_call12 : ∃ h1, CallAt Tryz.prog 12 A12 ⟨layAll .nil H12, 2983⟩ (.tuple V12.toArray) h1 ∧ h1.n = 5776 ∧ hasAll h1 K12 = true := by
  obtain ⟨t, h, h1, q1, q2, q3, q4⟩ := endChk_some told_end
  refine ⟨h1, ?_, q3, q4⟩
  have L : LoopAt Tryz.prog 105 loop12 (slotsT T_0) ⟨layAll .nil H_0, N_0⟩ .ret t h :=
    .next DG_ok told_0 (.next DG_ok told_8 (.next DG_ok told_16 (.next DG_ok told_24 (.next DG_ok told_32 (.next DG_ok told_40 (.next DG_ok told_48 (.of DG_ok q1)))))))
  have C : CodeAt Tryz.prog 105 body12 (ainit A12 0 .nil) ⟨layAll .nil H12, 2983⟩ .ret t h := by
    obtain ⟨t0, h0, p1, p2, p3, p4⟩ := stChk_some told_start
    refine CodeAt.chain DG_ok 5 p1 ?_
    rw [loop12_eq]
    exact .block_ret (.loop (LoopAt.partM L p2 p3 p4))
  exact CallAt.body (fn := Tryz.f12) Tryz.func12 body12_eq (by decide) (by decide) C q2
noncomputable def sumF : ASum := fun D f args h => cond (Nat.beq f 16) (memoT A16 H16 2 V16 2983 K16 args h) (cond (Nat.beq f 12) (memoT A12 H12 2983 V12 5776 K12 args h)
  (cond (Nat.beq f 32) (memoT A32 H32 5777 V32 6037 K32 args h) (cond (Nat.beq f 14) (memoB A14 H14 6038 true 7182 args h) (sumE D f args h))))
theorem sumF_ok : SumOk Tryz.prog sumF := by
  intro D hD f args h v h' hx w0 e w args' hv hr
  unfold sumF at hx
  cases h1 : Nat.beq f 16 with
  | true => rw [h1] at hx; obtain rfl := Nat.eq_of_beq_eq_true h1; exact memoT_ok (ai_ok sumE_ok 100000) made_chk hx hv hr
  | false =>
  rw [h1] at hx
  cases h2 : Nat.beq f 12 with
  | true => rw [h2] at hx; obtain rfl := Nat.eq_of_beq_eq_true h2; exact memoT_at told_call12 hx hv hr
  | false =>
  rw [h2] at hx
  cases h3 : Nat.beq f 32 with
  | true => rw [h3] at hx; obtain rfl := Nat.eq_of_beq_eq_true h3; exact memoT_ok (ai_ok sumE_ok 100000) turn_chk hx hv hr
  | false =>
  rw [h3] at hx
  cases h4 : Nat.beq f 14 with
  | true => rw [h4] at hx; obtain rfl := Nat.eq_of_beq_eq_true h4; exact memoB_ok (ai_ok sumE_ok 100000) valid_chk hx hv hr
  | false =>
  rw [h4] at hx
  exact sumE_ok D hD f args h v h' hx w0 e w args' hv hr
noncomputable def isTrue (x : Option (Value × AH)) : Bool := match x with
  | some (.bool b, _) => b
  | _ => false
theorem isTrue_some {x : Option (Value × AH)} (h : isTrue x = true) : ∃ h1, x = some (.bool true, h1) := by
  unfold isTrue at h
  split at h
  · rename_i b h1
    subst h
    exact ⟨h1, rfl⟩
  · cases h
set_option maxRecDepth 100000 in
theorem lives_chk : isTrue ((ai Tryz.prog sumF 3000).call 9 [] ⟨.nil, 0⟩) = true := by kernel_rfl
theorem lives_ok (w : World) : Calls Tryz.prog 9 #[] w fun x w' => x = .returned (.bool true) ∧ Below w.heap.size w w' := by
  obtain ⟨h1, q⟩ := isTrue_some lives_chk
  exact ai_call sumF_ok q w
end Go.Proofs.YtkpbhdhkdonghaaGreat
