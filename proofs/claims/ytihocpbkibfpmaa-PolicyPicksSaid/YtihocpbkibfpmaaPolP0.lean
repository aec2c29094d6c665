/-
  The walk of winepresslaw23.PolicyPicks: where it rests on the examples, and where no mode fits.
-/
import Derived.Test.YtihocpbkibfpmaaPolW
namespace Go.Proofs.Ytihocpbkibfpmaa
open Go Go.RowKit

def LS (N1 N2 N3 : Int) : Nat → Int
  | 0 => 0
  | 1 => N1
  | 2 => N2
  | _ => N3
set_option maxRecDepth 100000 in
theorem pw1 (b k n : Int) (d : Bool) (w : World)  (g0 : b < 1) : Calls Try.prog 4 #[.int .i64 b, .int .i64 k, .int .i64 n, .bool d] w fun e w' => e = .returned (.bool true) ∧ Below w.heap.size w w' := by
  go_enter Try.func4, Try.ntmps4
  have hm := Own.nil w
  go_wp2_with (first
    | (go_at_call 20; have _t := hm; refine (wakes23 _).mono ?_; rintro e w1 ⟨rfl, hb1⟩; have hm1 := hm.call hb1; clear hm))
  go_ret
  exact ⟨rfl, hm1.below⟩
set_option maxRecDepth 100000 in
theorem pw2 (b k n : Int) (d : Bool) (w : World) (g0 : ¬ b < 1) (g1 : 1048576 < b) : Calls Try.prog 4 #[.int .i64 b, .int .i64 k, .int .i64 n, .bool d] w fun e w' => e = .returned (.bool true) ∧ Below w.heap.size w w' := by
  go_enter Try.func4, Try.ntmps4
  have hm := Own.nil w
  go_wp2_with (first
    | (go_at_call 20; have _t := hm; refine (wakes23 _).mono ?_; rintro e w1 ⟨rfl, hb1⟩; have hm1 := hm.call hb1; clear hm))
  go_ret
  exact ⟨rfl, hm1.below⟩
set_option maxRecDepth 100000 in
theorem pw3 (b k n : Int) (d : Bool) (w : World) (g0 : ¬ b < 1) (g1 : ¬ 1048576 < b) (g2 : k < 1) : Calls Try.prog 4 #[.int .i64 b, .int .i64 k, .int .i64 n, .bool d] w fun e w' => e = .returned (.bool true) ∧ Below w.heap.size w w' := by
  go_enter Try.func4, Try.ntmps4
  have hm := Own.nil w
  go_wp2_with (first
    | (go_at_call 20; have _t := hm; refine (wakes23 _).mono ?_; rintro e w1 ⟨rfl, hb1⟩; have hm1 := hm.call hb1; clear hm))
  go_ret
  exact ⟨rfl, hm1.below⟩
set_option maxRecDepth 100000 in
theorem pw4 (b k n : Int) (d : Bool) (w : World) (g0 : ¬ b < 1) (g1 : ¬ 1048576 < b) (g2 : ¬ k < 1) (g3 : 1048576 < k) : Calls Try.prog 4 #[.int .i64 b, .int .i64 k, .int .i64 n, .bool d] w fun e w' => e = .returned (.bool true) ∧ Below w.heap.size w w' := by
  go_enter Try.func4, Try.ntmps4
  have hm := Own.nil w
  go_wp2_with (first
    | (go_at_call 20; have _t := hm; refine (wakes23 _).mono ?_; rintro e w1 ⟨rfl, hb1⟩; have hm1 := hm.call hb1; clear hm))
  go_ret
  exact ⟨rfl, hm1.below⟩
set_option maxRecDepth 100000 in
theorem pw5 (b k n : Int) (d : Bool) (w : World) (g0 : ¬ b < 1) (g1 : ¬ 1048576 < b) (g2 : ¬ k < 1) (g3 : ¬ 1048576 < k) (g4 : n < 1) : Calls Try.prog 4 #[.int .i64 b, .int .i64 k, .int .i64 n, .bool d] w fun e w' => e = .returned (.bool true) ∧ Below w.heap.size w w' := by
  go_enter Try.func4, Try.ntmps4
  have hm := Own.nil w
  go_wp2_with (first
    | (go_at_call 20; have _t := hm; refine (wakes23 _).mono ?_; rintro e w1 ⟨rfl, hb1⟩; have hm1 := hm.call hb1; clear hm))
  go_ret
  exact ⟨rfl, hm1.below⟩
set_option maxRecDepth 100000 in
theorem pw6 (b k n : Int) (d : Bool) (w : World) (g0 : ¬ b < 1) (g1 : ¬ 1048576 < b) (g2 : ¬ k < 1) (g3 : ¬ 1048576 < k) (g4 : ¬ n < 1) (g5 : 65536 < n) : Calls Try.prog 4 #[.int .i64 b, .int .i64 k, .int .i64 n, .bool d] w fun e w' => e = .returned (.bool true) ∧ Below w.heap.size w w' := by
  go_enter Try.func4, Try.ntmps4
  have hm := Own.nil w
  go_wp2_with (first
    | (go_at_call 20; have _t := hm; refine (wakes23 _).mono ?_; rintro e w1 ⟨rfl, hb1⟩; have hm1 := hm.call hb1; clear hm))
  go_ret
  exact ⟨rfl, hm1.below⟩
set_option maxRecDepth 100000 in
theorem pno1 (b k n N1 q1 q2 : Int) (w : World) (g0 : ¬ b < 1) (g1 : ¬ 1048576 < b) (g2 : ¬ k < 1) (g3 : ¬ 1048576 < k) (g4 : ¬ n < 1) (g5 : ¬ 65536 < n) (C1 : Hid (∀ w, Calls Try.prog 13 #[.int .i64 b, .int .i64 n, .int .u8 1] w (PickPost w (0, 230)))) (C2 : Hid (∀ w, Calls Try.prog 13 #[.int .i64 k, .int .i64 n, .int .u8 1] w (PickPost w (q1, q2)))) (L1 : Hid (∀ w, Calls Try.prog 11 #[.int .i64 n, .int .u8 1] w (NeedPost w N1 0)))
    (f1 : ¬ N1 < n) (f2 : ¬ n + (n + 7) / 8 < N1) (f3 : ¬ N1 ≤ b) : Calls Try.prog 4 #[.int .i64 b, .int .i64 k, .int .i64 n, .bool false] w fun e w' => e = .returned (.bool true) ∧ Below w.heap.size w w' := by
  have b3 : decide (N1 ≤ b) = false := decide_eq_false f3
  go_enter Try.func4, Try.ntmps4
  have hm := Own.nil w
  go_wp2_with (first
    | (go_at_call 13; have _t := hm; refine (C1.out _).mono ?_; rintro e w1 ⟨rfl, hb1⟩; have hm1 := hm.call hb1; clear hm)
    | (go_at_call 11; have _t := hm1; refine (L1.out _).mono ?_; rintro e w2 ⟨rfl, hb2⟩; have hm2 := hm1.call hb2; clear hm1)
    | (go_at_call 13; have _t := hm2; refine (C2.out _).mono ?_; rintro e w3 ⟨rfl, hb3⟩; have hm3 := hm2.call hb3; clear hm2)
    | (go_at_call 20; have _t := hm3; refine (wakes23 _).mono ?_; rintro e w4 ⟨rfl, hb4⟩; have hm4 := hm3.call hb4; clear hm3))
  go_ret
  exact ⟨rfl, hm4.below⟩
set_option maxRecDepth 100000 in
theorem pno2 (b k n N1 q1 q2 : Int) (w : World) (g0 : ¬ b < 1) (g1 : ¬ 1048576 < b) (g2 : ¬ k < 1) (g3 : ¬ 1048576 < k) (g4 : ¬ n < 1) (g5 : ¬ 65536 < n) (C1 : Hid (∀ w, Calls Try.prog 13 #[.int .i64 b, .int .i64 n, .int .u8 2] w (PickPost w (0, 230)))) (C2 : Hid (∀ w, Calls Try.prog 13 #[.int .i64 k, .int .i64 n, .int .u8 2] w (PickPost w (q1, q2)))) (L1 : Hid (∀ w, Calls Try.prog 11 #[.int .i64 n, .int .u8 2] w (NeedPost w N1 0)))
    (f1 : ¬ N1 < n) (f2 : ¬ n + (n + 7) / 8 < N1) (f3 : ¬ N1 ≤ b) : Calls Try.prog 4 #[.int .i64 b, .int .i64 k, .int .i64 n, .bool true] w fun e w' => e = .returned (.bool true) ∧ Below w.heap.size w w' := by
  have b3 : decide (N1 ≤ b) = false := decide_eq_false f3
  go_enter Try.func4, Try.ntmps4
  have hm := Own.nil w
  go_wp2_with (first
    | (go_at_call 13; have _t := hm; refine (C1.out _).mono ?_; rintro e w1 ⟨rfl, hb1⟩; have hm1 := hm.call hb1; clear hm)
    | (go_at_call 11; have _t := hm1; refine (L1.out _).mono ?_; rintro e w2 ⟨rfl, hb2⟩; have hm2 := hm1.call hb2; clear hm1)
    | (go_at_call 13; have _t := hm2; refine (C2.out _).mono ?_; rintro e w3 ⟨rfl, hb3⟩; have hm3 := hm2.call hb3; clear hm2)
    | (go_at_call 20; have _t := hm3; refine (wakes23 _).mono ?_; rintro e w4 ⟨rfl, hb4⟩; have hm4 := hm3.call hb4; clear hm3))
  go_ret
  exact ⟨rfl, hm4.below⟩
end Go.Proofs.Ytihocpbkibfpmaa
