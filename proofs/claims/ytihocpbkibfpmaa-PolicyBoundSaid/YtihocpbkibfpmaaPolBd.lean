/-
  The walk of winepresslaw23.PolicyBound.
-/
import Derived.Test.YtihocpbkibfpmaaPolW
namespace Go.Proofs.Ytihocpbkibfpmaa
open Go Go.RowKit

theorem bmin_facts {n m : Int} (h : argOk n 2 m) : 1 ≤ bmin n m ∧ bmin n 3 = 1 := by
  have h1 := h.1
  obtain ⟨_, _, _, rfl | rfl | rfl⟩ := h
  · have d1 : dd 1 = 8192 := rfl
    have d3 : dd 3 = 1 := rfl
    unfold bmin
    rw [d1, d3]
    constructor <;> split <;> omega
  · have d1 : dd 2 = 1024 := rfl
    have d3 : dd 3 = 1 := rfl
    unfold bmin
    rw [d1, d3]
    constructor <;> split <;> omega
  · have d3 : dd 3 = 1 := rfl
    unfold bmin
    rw [d3]
    constructor <;> split <;> omega
theorem bmin_mono {n k : Int} (m : Int) (h : n ≤ k) : bmin n m ≤ bmin k m := by
  unfold bmin
  split <;> split <;> omega
theorem bnd_facts {n k m : Int} (h : argOk n 2 m) (h2 : argOk k 2 m) (hk : n < k) : bnd n m < bnd k m ∧ bnd n 3 ≤ bnd n m ∧ 8002 + 15 * (n + 1) + 2 * n + 1 ≤ bnd n m := by
  have h3 : argOk n 2 3 := ⟨h.1, h.2.1, h.2.2.1, by omega⟩
  rw [bnd, bnd, bnd, if_pos h, if_pos h2, if_pos h3]
  have f := bmin_facts h
  have g := bmin_mono m (show n ≤ k by omega)
  have hn := h.1
  rw [f.2]
  have m1 : (2 * n + 1) * bmin n m ≤ (2 * k + 1) * bmin k m := Int.mul_le_mul (by omega) g (by omega) (by omega)
  have m2 : (2 * n + 1) * 1 ≤ (2 * n + 1) * bmin n m := Int.mul_le_mul_of_nonneg_left f.1 (by omega)
  omega
set_option maxRecDepth 100000 in
theorem bw1 (n k m : Int) (w : World) (h : n < 1) : Calls Try.prog 6 #[.int .i64 n, .int .i64 k, .int .u8 m] w fun e w' => e = .returned (.bool true) ∧ Below w.heap.size w w' := by
  go_enter Try.func6, Try.ntmps6
  have hm := Own.nil w
  go_wp2_with (first
    | (go_at_call 20; have _t := hm; refine (wakes23 _).mono ?_; rintro e w1 ⟨rfl, hb1⟩; have hm1 := hm.call hb1; clear hm))
  go_ret
  exact ⟨rfl, hm1.below⟩
set_option maxRecDepth 100000 in
theorem bw2 (n k m : Int) (w : World) (h : 1 ≤ n) (h2 : k ≤ n) : Calls Try.prog 6 #[.int .i64 n, .int .i64 k, .int .u8 m] w fun e w' => e = .returned (.bool true) ∧ Below w.heap.size w w' := by
  have a1 : ¬ n < 1 := by omega
  go_enter Try.func6, Try.ntmps6
  have hm := Own.nil w
  go_wp2_with (first
    | (go_at_call 20; have _t := hm; refine (wakes23 _).mono ?_; rintro e w1 ⟨rfl, hb1⟩; have hm1 := hm.call hb1; clear hm))
  go_ret
  exact ⟨rfl, hm1.below⟩
set_option maxRecDepth 100000 in
theorem bw3 (n k m : Int) (w : World) (h : 1 ≤ n) (h2 : n < k) (h3 : 65536 < k) : Calls Try.prog 6 #[.int .i64 n, .int .i64 k, .int .u8 m] w fun e w' => e = .returned (.bool true) ∧ Below w.heap.size w w' := by
  have a1 : ¬ n < 1 := by omega
  have a2 : ¬ k ≤ n := by omega
  go_enter Try.func6, Try.ntmps6
  have hm := Own.nil w
  go_wp2_with (first
    | (go_at_call 20; have _t := hm; refine (wakes23 _).mono ?_; rintro e w1 ⟨rfl, hb1⟩; have hm1 := hm.call hb1; clear hm))
  go_ret
  exact ⟨rfl, hm1.below⟩
set_option maxRecDepth 100000 in
theorem bw4 (n k m : Int) (w : World) (h : 1 ≤ n) (h2 : n < k) (h3 : k ≤ 65536) (h4 : m < 1) : Calls Try.prog 6 #[.int .i64 n, .int .i64 k, .int .u8 m] w fun e w' => e = .returned (.bool true) ∧ Below w.heap.size w w' := by
  have a1 : ¬ n < 1 := by omega
  have a2 : ¬ k ≤ n := by omega
  have a3 : ¬ 65536 < k := by omega
  go_enter Try.func6, Try.ntmps6
  have hm := Own.nil w
  go_wp2_with (first
    | (go_at_call 20; have _t := hm; refine (wakes23 _).mono ?_; rintro e w1 ⟨rfl, hb1⟩; have hm1 := hm.call hb1; clear hm))
  go_ret
  exact ⟨rfl, hm1.below⟩
set_option maxRecDepth 100000 in
theorem bw5 (n k m : Int) (w : World) (h : 1 ≤ n) (h2 : n < k) (h3 : k ≤ 65536) (h4 : 3 < m) : Calls Try.prog 6 #[.int .i64 n, .int .i64 k, .int .u8 m] w fun e w' => e = .returned (.bool true) ∧ Below w.heap.size w w' := by
  have a1 : ¬ n < 1 := by omega
  have a2 : ¬ k ≤ n := by omega
  have a3 : ¬ 65536 < k := by omega
  have a4 : ¬ m < 1 := by omega
  go_enter Try.func6, Try.ntmps6
  have hm := Own.nil w
  go_wp2_with (first
    | (go_at_call 20; have _t := hm; refine (wakes23 _).mono ?_; rintro e w1 ⟨rfl, hb1⟩; have hm1 := hm.call hb1; clear hm))
  go_ret
  exact ⟨rfl, hm1.below⟩
set_option maxRecDepth 100000 in
set_option maxHeartbeats 1000000 in
theorem bin (n k m a b c : Int) (w : World) (h1 : 1 ≤ n) (h2 : n < k) (h3 : k ≤ 65536) (h4 : 1 ≤ m) (h5 : m ≤ 3) (C1 : Hid (∀ w, Calls Try.prog 17 #[.int .i64 n, .int .u8 m] w (NeedPost w a 0))) (C2 : Hid (∀ w, Calls Try.prog 17 #[.int .i64 k, .int .u8 m] w (NeedPost w b 0))) (C3 : Hid (∀ w, Calls Try.prog 17 #[.int .i64 n, .int .u8 3] w (NeedPost w c 0)))
    (f1 : a < b) (f2 : c ≤ a) (f3 : 8002 + 15 * (n + 1) + 2 * n + 1 ≤ a) : Calls Try.prog 6 #[.int .i64 n, .int .i64 k, .int .u8 m] w fun e w' => e = .returned (.bool true) ∧ Below w.heap.size w w' := by
  have a1 : ¬ n < 1 := by omega
  have a2 : ¬ k ≤ n := by omega
  have a3 : ¬ 65536 < k := by omega
  have a4 : ¬ m < 1 := by omega
  have a5 : ¬ 3 < m := by omega
  go_enter Try.func6, Try.ntmps6
  have hm := Own.nil w
  go_wp2_with (first
    | (go_at_call 17; have _t := hm; refine (C1.out _).mono ?_; rintro e w1 ⟨rfl, hb1⟩; have hm1 := hm.call hb1; clear hm)
    | (go_at_call 17; have _t := hm1; refine (C2.out _).mono ?_; rintro e w2 ⟨rfl, hb2⟩; have hm2 := hm1.call hb2; clear hm1)
    | (go_at_call 17; have _t := hm2; refine (C3.out _).mono ?_; rintro e w3 ⟨rfl, hb3⟩; have hm3 := hm2.call hb3; clear hm2)
    | (go_at_call 20; have _t := hm3; refine (wakes23 _).mono ?_; rintro e w4 ⟨rfl, hb4⟩; have hm4 := hm3.call hb4; clear hm3))
  go_ret
  exact ⟨rfl, hm4.below⟩
theorem bound23 (n k m : Int) (w : World) (hm : (Lit.int .u8 m).wf = true) : Calls Try.prog 6 #[.int .i64 n, .int .i64 k, .int .u8 m] w fun e w' => e = .returned (.bool true) ∧ Below w.heap.size w w' := by
  by_cases h1 : n < 1
  · exact bw1 n k m w h1
  by_cases h2 : k ≤ n
  · exact bw2 n k m w (by omega) h2
  by_cases h3 : 65536 < k
  · exact bw3 n k m w (by omega) (by omega) h3
  by_cases h4 : m < 1
  · exact bw4 n k m w (by omega) (by omega) (by omega) h4
  by_cases h5 : 3 < m
  · exact bw5 n k m w (by omega) (by omega) (by omega) h5
  have k1 : argOk n 2 m := ⟨by omega, by omega, by omega, by omega⟩
  have k2 : argOk k 2 m := ⟨by omega, by omega, by omega, by omega⟩
  have k3 : argOk n 2 3 := ⟨by omega, by omega, by omega, by omega⟩
  obtain ⟨f1, f2, f3⟩ := bnd_facts k1 k2 (by omega)
  refine bin n k m _ _ _ w (by omega) (by omega) (by omega) (by omega) (by omega) (fun w => ?_) (fun w => ?_) (fun w => ?_) f1 f2 f3
  · have := bound_any n m w hm; rwa [er_ok k1] at this
  · have := bound_any k m w hm; rwa [er_ok k2] at this
  · have := bound_any n 3 w rfl; rwa [er_ok k3] at this
end Go.Proofs.Ytihocpbkibfpmaa
