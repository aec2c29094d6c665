/-
  The walk of winepresslaw14.ZeroRunOnly.
-/
import Derived.Test.YtaccjnekonmkoaaZrQ
import Derived.Test.YtaccjnekonmkoaaZrDg
namespace Go.Proofs.Ytaccjnekonmkoaa
open Go Go.RowKit

set_option maxRecDepth 100000 in
theorem only_w1 (most : Int) (v : Value) (l : List Int) (w : World) (hv : In .i64 w v l) (h : (300 : Int) < l.length) : Calls Try.prog 10 #[.int .i64 most, v] w fun e w' => e = .returned (.bool true) ∧ Below w.heap.size w w' := by
  obtain ⟨ad, cp, rfl, _⟩ := hv
  go_enter Try.func10, Try.ntmps10
  have hm := Own.nil w
  go_wp2_with (first
    | (go_at_call 33; have _t := hm; refine (wakes14 _).mono ?_; rintro e w1 ⟨rfl, hb1⟩; have hm1 := hm.call hb1; clear hm))
  go_ret
  exact ⟨rfl, hm1.below⟩
set_option maxRecDepth 100000 in
theorem only_w2 (most : Int) (v : Value) (l : List Int) (w : World) (hv : In .i64 w v l) (h : ¬ (300 : Int) < l.length) (h2 : 3000 < most) : Calls Try.prog 10 #[.int .i64 most, v] w fun e w' => e = .returned (.bool true) ∧ Below w.heap.size w w' := by
  obtain ⟨ad, cp, rfl, _⟩ := hv
  go_enter Try.func10, Try.ntmps10
  have hm := Own.nil w
  go_wp2_with (first
    | (go_at_call 33; have _t := hm; refine (wakes14 _).mono ?_; rintro e w1 ⟨rfl, hb1⟩; have hm1 := hm.call hb1; clear hm))
  go_ret
  exact ⟨rfl, hm1.below⟩
set_option maxRecDepth 100000 in
set_option maxHeartbeats 1000000 in
theorem only_err (most : Int) (v : Value) (l : List Int) (w : World) (hv : In .i64 w v l) (h : ¬ (300 : Int) < l.length) (h2 : ¬ 3000 < most) (CU : Hid (∀ w', In .i64 w' v l → Calls Try.prog 43 #[.int .i64 most, v] w' (ListPost w' [] 2))) : Calls Try.prog 10 #[.int .i64 most, v] w fun e w' => e = .returned (.bool true) ∧ Below w.heap.size w w' := by
  have HV := Lib.hid hv
  obtain ⟨ad, cp, rfl, _⟩ := hv
  go_enter Try.func10, Try.ntmps10
  have hm := Own.nil w
  go_wp2_with (first
    | (go_at_call 43; have _t := hm; refine (CU.out _ HV.out).mono ?_; rintro e w1 ⟨⟨r1, rfl, ho1⟩, hb1⟩; obtain ⟨a1, c1, rfl⟩ := owns_shape0 ho1; have hm1 := hm.call hb1; clear hm)
    | (go_at_call 33; have _t := hm1; refine (wakes14 _).mono ?_; rintro e w2 ⟨rfl, hb2⟩; have hm2 := hm1.call hb2; clear hm1))
  go_ret
  exact ⟨rfl, hm2.below⟩
set_option maxRecDepth 100000 in
set_option maxHeartbeats 1000000 in
theorem only_ok (most : Int) (v : Value) (l p : List Int) (w : World) (sv : Src w v (vs .i64 l)) (h : ¬ (300 : Int) < l.length) (h2 : ¬ 3000 < most) (hp : (p.length : Int) ≤ most) (CU : Hid (∀ w', In .i64 w' v l → Calls Try.prog 43 #[.int .i64 most, v] w' (ListPost w' p 0))) (CF : Hid (foldO p = (l, 0))) : Calls Try.prog 10 #[.int .i64 most, v] w fun e w' => e = .returned (.bool true) ∧ Below w.heap.size w w' := by
  have HV := Lib.hid (srcIn sv)
  have SV := Lib.hid sv
  obtain ⟨ad, cp, rfl, _⟩ := srcIn sv
  clear sv
  have hl : l.length ≤ 10000 := by omega
  go_enter Try.func10, Try.ntmps10
  have hm := Own.nil w
  go_wp2_with (first
    | (go_at_call 43; have _t := hm; refine (CU.out _ HV.out).mono ?_; rintro e w1 ⟨⟨r1, rfl, ho1⟩, hb1⟩; obtain ⟨a1, c1, rfl⟩ := owns_shape0 ho1; have hm1 := hm.callSl hb1 (by rw [length_vs]; exact ho1); clear hm ho1)
    | (go_at_call 41; have _t := hm1; refine (fold_any _ p _ (srcIn (Src.of_owned (hm1.get 0 rfl))) (by omega)).mono ?_; rintro e w2 ⟨⟨r2, rfl, ho2⟩, hb2⟩; rw [CF.out] at ho2; rw [CF.out]; obtain ⟨a2, c2, rfl⟩ := owns_shape0 ho2; have hm2 := hm1.callSl hb2 (by rw [length_vs]; exact ho2); clear hm1 ho2)
    | (go_at_call 40; have _t := hm2; refine (ints_any _ _ l l _ ⟨_, _, rfl⟩ ⟨_, _, rfl⟩ (Src.of_owned (hm2.get 0 rfl)) (SV.out.below hm2.below) hl).mono ?_; rintro e w3 ⟨rfl, hb3⟩; rw [beq_self_eq_true]; have hm3 := hm2.call hb3; clear hm2)
    | (go_at_call 33; have _t := hm3; refine (wakes14 _).mono ?_; rintro e w4 ⟨rfl, hb4⟩; have hm4 := hm3.call hb4; clear hm3))
  go_ret
  exact ⟨rfl, hm4.below⟩
theorem only14 (most : Int) (v : Value) (l : List Int) (w : World) (hlo : -9223372036854775808 ≤ most) (sv : Src w v (vs .i64 l)) : Calls Try.prog 10 #[.int .i64 most, v] w fun e w' => e = .returned (.bool true) ∧ Below w.heap.size w w' := by
  by_cases h : (300 : Int) < l.length
  · exact only_w1 most v l w (srcIn sv) h
  by_cases h2 : 3000 < most
  · exact only_w2 most v l w (srcIn sv) h h2
  have CU : ∀ w', In .i64 w' v l → Calls Try.prog 43 #[.int .i64 most, v] w' (ListPost w' (unfoldO most l).1 (unfoldO most l).2) := fun w' hv => unfold_any most v l w' hv (by omega) (by omega) hlo
  rcases ugo_two most l 0 0 [] with h0 | h0
  · have h0 : (unfoldO most l).2 = 0 := h0
    obtain ⟨h3, h4⟩ := only_law h0
    rw [h0] at CU
    exact only_ok most v l _ w sv h h2 h4 CU h3
  · have h0 : unfoldO most l = ([], 2) := h0
    rw [h0] at CU
    exact only_err most v l w (srcIn sv) h h2 CU
end Go.Proofs.Ytaccjnekonmkoaa
