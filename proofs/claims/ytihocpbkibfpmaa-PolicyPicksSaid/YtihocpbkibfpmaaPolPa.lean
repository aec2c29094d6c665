/-
  The walk of winepresslaw23.PolicyPicks: a part of the cases where a mode fits.
-/
import Derived.Test.YtihocpbkibfpmaaPolP0
namespace Go.Proofs.Ytihocpbkibfpmaa
open Go Go.RowKit

set_option maxRecDepth 100000 in
set_option maxHeartbeats 2000000 in
theorem pN1 (b k n N1 N2 N3 p1 q1 : Int) (w : World) (g0 : ¬ b < 1) (g1 : ¬ 1048576 < b) (g2 : ¬ k < 1) (g3 : ¬ 1048576 < k) (g4 : ¬ n < 1) (g5 : ¬ 65536 < n) (C1 : Hid (∀ w, Calls Try.prog 13 #[.int .i64 b, .int .i64 n, .int .u8 1] w (PickPost w (p1, 0)))) (C2 : Hid (∀ w, Calls Try.prog 13 #[.int .i64 k, .int .i64 n, .int .u8 1] w (PickPost w (q1, 230)))) (L1 : Hid (∀ w, Calls Try.prog 11 #[.int .i64 n, .int .u8 1] w (NeedPost w N1 0)))
    (D1 : Hid (∀ w, Calls Try.prog 9 #[.int .i64 n, .int .u8 1, .int .u8 1] w (NeedPost w N1 0))) (D2 : Hid (∀ w, Calls Try.prog 9 #[.int .i64 n, .int .u8 1, .int .u8 2] w (NeedPost w N2 0))) (D3 : Hid (∀ w, Calls Try.prog 9 #[.int .i64 n, .int .u8 1, .int .u8 3] w (NeedPost w N3 0)))
    (f1 : ¬ N1 < n) (f2 : ¬ n + (n + 7) / 8 < N1) (f3 : N1 ≤ b)  (o0 : 0 ≤ N1) (o1 : N1 ≤ N2) (o2 : N2 ≤ N3) (o3 : N3 ≤ 1048576) (F1 : 1 ≤ p1 → N1 ≤ b) (F2 : 2 ≤ p1 → N2 ≤ b) (F3 : 3 ≤ p1 → N3 ≤ b) (G1 : p1 < 1 → b < N1) (G2 : p1 < 2 → b < N2) (G3 : p1 < 3 → b < N3) : Calls Try.prog 4 #[.int .i64 b, .int .i64 k, .int .i64 n, .bool false] w fun e w' => e = .returned (.bool true) ∧ Below w.heap.size w w' := by
  go_enter Try.func4, Try.ntmps4
  have hm := Own.nil w
  go_wp2_with (first
    | (go_at_call 13; have _t := hm; refine (C1.out _).mono ?_; rintro e w1 ⟨rfl, hb1⟩; have hm1 := hm.call hb1; clear hm)
    | (go_at_call 11; have _t := hm1; refine (L1.out _).mono ?_; rintro e w2 ⟨rfl, hb2⟩; have hm2 := hm1.call hb2; clear hm1)
    | (go_at_call 13; have _t := hm2; refine (C2.out _).mono ?_; rintro e w3 ⟨rfl, hb3⟩; have hm3 := hm2.call hb3; clear hm2))
  go_loopw [16, 17] (fun v u wr => ∃ r : Nat, r ≤ 3 ∧ v = .int .i64 (LS N1 N2 N3 r) ∧ u = .int .u8 ((r + 1 : Nat) : Int) ∧ Own w wr [] []) (fun _ u _ => 4 - (intOf u).toNat)
  case atStart => exact ⟨0, by omega, rfl, rfl, hm3⟩
  case round =>
    obtain ⟨r, hk, rfl, rfl, hmr⟩ := hrel
    clear hm3 g0 g1 g2 g3 g4 g5 f1 f2 f3
    have hks : r = 0 ∨ r = 1 ∨ r = 2 ∨ r = 3 := by omega
    rcases hks with rfl | rfl | rfl | rfl
    · have e0 : LS N1 N2 N3 0 = 0 := rfl
      have e1 := Lib.hid (show LS N1 N2 N3 (0 + 1) = N1 from rfl)
      rw [e0]
      by_cases hmp : (1 : Int) ≤ p1
      · have y1 := F1 hmp
        have y2 : ¬ b < N1 := by omega
        have y3 : ¬ p1 < 1 := by omega
        have y4 : decide (p1 < 1) = false := decide_eq_false y3
        have y5 : ¬ N1 < 0 := by omega
        have y6 : ¬ 1048576 < N1 := by omega
        have y7 : decide (b < N1) = false := decide_eq_false y2
        clear F1 F2 F3 G1 G2 G3 o0 o1 o2 o3 hk
        go_wp2_with (first
          | (go_at_call 9; have _t := hmr; refine (D1.out _).mono ?_; rintro e w5 ⟨rfl, hb5⟩; have hm5 := hmr.call hb5; clear hmr))
        go_roundw
        case rel => exact ⟨0 + 1, by omega, by rw [e1.out], rfl, hm5⟩
        case measure => simp [intOf]
      · have y1 := G1 (by omega)
        have y2 : ¬ N1 ≤ b := by omega
        have y3 : p1 < 1 := by omega
        have y4 : decide ((1 : Int) ≤ p1) = false := decide_eq_false hmp
        have y5 : ¬ N1 < 0 := by omega
        have y6 : ¬ 1048576 < N1 := by omega
        have y7 : decide (N1 ≤ b) = false := decide_eq_false y2
        clear F1 F2 F3 G1 G2 G3 o0 o1 o2 o3 hk
        go_wp2_with (first
          | (go_at_call 9; have _t := hmr; refine (D1.out _).mono ?_; rintro e w5 ⟨rfl, hb5⟩; have hm5 := hmr.call hb5; clear hmr))
        go_roundw
        case rel => exact ⟨0 + 1, by omega, by rw [e1.out], rfl, hm5⟩
        case measure => simp [intOf]
    · have e0 : LS N1 N2 N3 1 = N1 := rfl
      have e1 := Lib.hid (show LS N1 N2 N3 (1 + 1) = N2 from rfl)
      rw [e0]
      by_cases hmp : (2 : Int) ≤ p1
      · have y1 := F2 hmp
        have y2 : ¬ b < N2 := by omega
        have y3 : ¬ p1 < 2 := by omega
        have y4 : decide (p1 < 2) = false := decide_eq_false y3
        have y5 : ¬ N2 < N1 := by omega
        have y6 : ¬ 1048576 < N2 := by omega
        have y7 : decide (b < N2) = false := decide_eq_false y2
        clear F1 F2 F3 G1 G2 G3 o0 o1 o2 o3 hk
        go_wp2_with (first
          | (go_at_call 9; have _t := hmr; refine (D2.out _).mono ?_; rintro e w5 ⟨rfl, hb5⟩; have hm5 := hmr.call hb5; clear hmr))
        go_roundw
        case rel => exact ⟨1 + 1, by omega, by rw [e1.out], rfl, hm5⟩
        case measure => simp [intOf]
      · have y1 := G2 (by omega)
        have y2 : ¬ N2 ≤ b := by omega
        have y3 : p1 < 2 := by omega
        have y4 : decide ((2 : Int) ≤ p1) = false := decide_eq_false hmp
        have y5 : ¬ N2 < N1 := by omega
        have y6 : ¬ 1048576 < N2 := by omega
        have y7 : decide (N2 ≤ b) = false := decide_eq_false y2
        clear F1 F2 F3 G1 G2 G3 o0 o1 o2 o3 hk
        go_wp2_with (first
          | (go_at_call 9; have _t := hmr; refine (D2.out _).mono ?_; rintro e w5 ⟨rfl, hb5⟩; have hm5 := hmr.call hb5; clear hmr))
        go_roundw
        case rel => exact ⟨1 + 1, by omega, by rw [e1.out], rfl, hm5⟩
        case measure => simp [intOf]
    · have e0 : LS N1 N2 N3 2 = N2 := rfl
      have e1 := Lib.hid (show LS N1 N2 N3 (2 + 1) = N3 from rfl)
      rw [e0]
      by_cases hmp : (3 : Int) ≤ p1
      · have y1 := F3 hmp
        have y2 : ¬ b < N3 := by omega
        have y3 : ¬ p1 < 3 := by omega
        have y4 : decide (p1 < 3) = false := decide_eq_false y3
        have y5 : ¬ N3 < N2 := by omega
        have y6 : ¬ 1048576 < N3 := by omega
        have y7 : decide (b < N3) = false := decide_eq_false y2
        clear F1 F2 F3 G1 G2 G3 o0 o1 o2 o3 hk
        go_wp2_with (first
          | (go_at_call 9; have _t := hmr; refine (D3.out _).mono ?_; rintro e w5 ⟨rfl, hb5⟩; have hm5 := hmr.call hb5; clear hmr))
        go_roundw
        case rel => exact ⟨2 + 1, by omega, by rw [e1.out], rfl, hm5⟩
        case measure => simp [intOf]
      · have y1 := G3 (by omega)
        have y2 : ¬ N3 ≤ b := by omega
        have y3 : p1 < 3 := by omega
        have y4 : decide ((3 : Int) ≤ p1) = false := decide_eq_false hmp
        have y5 : ¬ N3 < N2 := by omega
        have y6 : ¬ 1048576 < N3 := by omega
        have y7 : decide (N3 ≤ b) = false := decide_eq_false y2
        clear F1 F2 F3 G1 G2 G3 o0 o1 o2 o3 hk
        go_wp2_with (first
          | (go_at_call 9; have _t := hmr; refine (D3.out _).mono ?_; rintro e w5 ⟨rfl, hb5⟩; have hm5 := hmr.call hb5; clear hmr))
        go_roundw
        case rel => exact ⟨2 + 1, by omega, by rw [e1.out], rfl, hm5⟩
        case measure => simp [intOf]
    · clear F1 F2 F3 G1 G2 G3 o0 o1 o2 o3 hk
      go_wp2_with (first
        | (go_at_call 20; have _t := hmr; refine (wakes23 _).mono ?_; rintro e w6 ⟨rfl, hb6⟩; have hm6 := hmr.call hb6; clear hmr))
      go_ret
      exact ⟨rfl, hm6.below⟩
set_option maxRecDepth 100000 in
set_option maxHeartbeats 2000000 in
theorem plt1 (b k n N1 N2 N3 p1 q1 : Int) (w : World) (g0 : ¬ b < 1) (g1 : ¬ 1048576 < b) (g2 : ¬ k < 1) (g3 : ¬ 1048576 < k) (g4 : ¬ n < 1) (g5 : ¬ 65536 < n) (C1 : Hid (∀ w, Calls Try.prog 13 #[.int .i64 b, .int .i64 n, .int .u8 1] w (PickPost w (p1, 0)))) (C2 : Hid (∀ w, Calls Try.prog 13 #[.int .i64 k, .int .i64 n, .int .u8 1] w (PickPost w (q1, 0)))) (L1 : Hid (∀ w, Calls Try.prog 11 #[.int .i64 n, .int .u8 1] w (NeedPost w N1 0)))
    (D1 : Hid (∀ w, Calls Try.prog 9 #[.int .i64 n, .int .u8 1, .int .u8 1] w (NeedPost w N1 0))) (D2 : Hid (∀ w, Calls Try.prog 9 #[.int .i64 n, .int .u8 1, .int .u8 2] w (NeedPost w N2 0))) (D3 : Hid (∀ w, Calls Try.prog 9 #[.int .i64 n, .int .u8 1, .int .u8 3] w (NeedPost w N3 0)))
    (f1 : ¬ N1 < n) (f2 : ¬ n + (n + 7) / 8 < N1) (f3 : N1 ≤ b) (e1 : b < k) (e2 : p1 ≤ q1) (o0 : 0 ≤ N1) (o1 : N1 ≤ N2) (o2 : N2 ≤ N3) (o3 : N3 ≤ 1048576) (F1 : 1 ≤ p1 → N1 ≤ b) (F2 : 2 ≤ p1 → N2 ≤ b) (F3 : 3 ≤ p1 → N3 ≤ b) (G1 : p1 < 1 → b < N1) (G2 : p1 < 2 → b < N2) (G3 : p1 < 3 → b < N3) : Calls Try.prog 4 #[.int .i64 b, .int .i64 k, .int .i64 n, .bool false] w fun e w' => e = .returned (.bool true) ∧ Below w.heap.size w w' := by
  have x1 : ¬ q1 < p1 := by omega
  have x2 : (b == k) = false := by simp; omega
  have x3 : decide (b = k) = false := decide_eq_false (by omega)
  have x4 : decide (q1 < p1) = false := decide_eq_false x1
  go_enter Try.func4, Try.ntmps4
  have hm := Own.nil w
  go_wp2_with (first
    | (go_at_call 13; have _t := hm; refine (C1.out _).mono ?_; rintro e w1 ⟨rfl, hb1⟩; have hm1 := hm.call hb1; clear hm)
    | (go_at_call 11; have _t := hm1; refine (L1.out _).mono ?_; rintro e w2 ⟨rfl, hb2⟩; have hm2 := hm1.call hb2; clear hm1)
    | (go_at_call 13; have _t := hm2; refine (C2.out _).mono ?_; rintro e w3 ⟨rfl, hb3⟩; have hm3 := hm2.call hb3; clear hm2))
  go_loopw [16, 17] (fun v u wr => ∃ r : Nat, r ≤ 3 ∧ v = .int .i64 (LS N1 N2 N3 r) ∧ u = .int .u8 ((r + 1 : Nat) : Int) ∧ Own w wr [] []) (fun _ u _ => 4 - (intOf u).toNat)
  case atStart => exact ⟨0, by omega, rfl, rfl, hm3⟩
  case round =>
    obtain ⟨r, hk, rfl, rfl, hmr⟩ := hrel
    clear hm3 g0 g1 g2 g3 g4 g5 f1 f2 f3
    have hks : r = 0 ∨ r = 1 ∨ r = 2 ∨ r = 3 := by omega
    rcases hks with rfl | rfl | rfl | rfl
    · have e0 : LS N1 N2 N3 0 = 0 := rfl
      have e1 := Lib.hid (show LS N1 N2 N3 (0 + 1) = N1 from rfl)
      rw [e0]
      by_cases hmp : (1 : Int) ≤ p1
      · have y1 := F1 hmp
        have y2 : ¬ b < N1 := by omega
        have y3 : ¬ p1 < 1 := by omega
        have y4 : decide (p1 < 1) = false := decide_eq_false y3
        have y5 : ¬ N1 < 0 := by omega
        have y6 : ¬ 1048576 < N1 := by omega
        have y7 : decide (b < N1) = false := decide_eq_false y2
        clear F1 F2 F3 G1 G2 G3 o0 o1 o2 o3 hk
        go_wp2_with (first
          | (go_at_call 9; have _t := hmr; refine (D1.out _).mono ?_; rintro e w5 ⟨rfl, hb5⟩; have hm5 := hmr.call hb5; clear hmr))
        go_roundw
        case rel => exact ⟨0 + 1, by omega, by rw [e1.out], rfl, hm5⟩
        case measure => simp [intOf]
      · have y1 := G1 (by omega)
        have y2 : ¬ N1 ≤ b := by omega
        have y3 : p1 < 1 := by omega
        have y4 : decide ((1 : Int) ≤ p1) = false := decide_eq_false hmp
        have y5 : ¬ N1 < 0 := by omega
        have y6 : ¬ 1048576 < N1 := by omega
        have y7 : decide (N1 ≤ b) = false := decide_eq_false y2
        clear F1 F2 F3 G1 G2 G3 o0 o1 o2 o3 hk
        go_wp2_with (first
          | (go_at_call 9; have _t := hmr; refine (D1.out _).mono ?_; rintro e w5 ⟨rfl, hb5⟩; have hm5 := hmr.call hb5; clear hmr))
        go_roundw
        case rel => exact ⟨0 + 1, by omega, by rw [e1.out], rfl, hm5⟩
        case measure => simp [intOf]
    · have e0 : LS N1 N2 N3 1 = N1 := rfl
      have e1 := Lib.hid (show LS N1 N2 N3 (1 + 1) = N2 from rfl)
      rw [e0]
      by_cases hmp : (2 : Int) ≤ p1
      · have y1 := F2 hmp
        have y2 : ¬ b < N2 := by omega
        have y3 : ¬ p1 < 2 := by omega
        have y4 : decide (p1 < 2) = false := decide_eq_false y3
        have y5 : ¬ N2 < N1 := by omega
        have y6 : ¬ 1048576 < N2 := by omega
        have y7 : decide (b < N2) = false := decide_eq_false y2
        clear F1 F2 F3 G1 G2 G3 o0 o1 o2 o3 hk
        go_wp2_with (first
          | (go_at_call 9; have _t := hmr; refine (D2.out _).mono ?_; rintro e w5 ⟨rfl, hb5⟩; have hm5 := hmr.call hb5; clear hmr))
        go_roundw
        case rel => exact ⟨1 + 1, by omega, by rw [e1.out], rfl, hm5⟩
        case measure => simp [intOf]
      · have y1 := G2 (by omega)
        have y2 : ¬ N2 ≤ b := by omega
        have y3 : p1 < 2 := by omega
        have y4 : decide ((2 : Int) ≤ p1) = false := decide_eq_false hmp
        have y5 : ¬ N2 < N1 := by omega
        have y6 : ¬ 1048576 < N2 := by omega
        have y7 : decide (N2 ≤ b) = false := decide_eq_false y2
        clear F1 F2 F3 G1 G2 G3 o0 o1 o2 o3 hk
        go_wp2_with (first
          | (go_at_call 9; have _t := hmr; refine (D2.out _).mono ?_; rintro e w5 ⟨rfl, hb5⟩; have hm5 := hmr.call hb5; clear hmr))
        go_roundw
        case rel => exact ⟨1 + 1, by omega, by rw [e1.out], rfl, hm5⟩
        case measure => simp [intOf]
    · have e0 : LS N1 N2 N3 2 = N2 := rfl
      have e1 := Lib.hid (show LS N1 N2 N3 (2 + 1) = N3 from rfl)
      rw [e0]
      by_cases hmp : (3 : Int) ≤ p1
      · have y1 := F3 hmp
        have y2 : ¬ b < N3 := by omega
        have y3 : ¬ p1 < 3 := by omega
        have y4 : decide (p1 < 3) = false := decide_eq_false y3
        have y5 : ¬ N3 < N2 := by omega
        have y6 : ¬ 1048576 < N3 := by omega
        have y7 : decide (b < N3) = false := decide_eq_false y2
        clear F1 F2 F3 G1 G2 G3 o0 o1 o2 o3 hk
        go_wp2_with (first
          | (go_at_call 9; have _t := hmr; refine (D3.out _).mono ?_; rintro e w5 ⟨rfl, hb5⟩; have hm5 := hmr.call hb5; clear hmr))
        go_roundw
        case rel => exact ⟨2 + 1, by omega, by rw [e1.out], rfl, hm5⟩
        case measure => simp [intOf]
      · have y1 := G3 (by omega)
        have y2 : ¬ N3 ≤ b := by omega
        have y3 : p1 < 3 := by omega
        have y4 : decide ((3 : Int) ≤ p1) = false := decide_eq_false hmp
        have y5 : ¬ N3 < N2 := by omega
        have y6 : ¬ 1048576 < N3 := by omega
        have y7 : decide (N3 ≤ b) = false := decide_eq_false y2
        clear F1 F2 F3 G1 G2 G3 o0 o1 o2 o3 hk
        go_wp2_with (first
          | (go_at_call 9; have _t := hmr; refine (D3.out _).mono ?_; rintro e w5 ⟨rfl, hb5⟩; have hm5 := hmr.call hb5; clear hmr))
        go_roundw
        case rel => exact ⟨2 + 1, by omega, by rw [e1.out], rfl, hm5⟩
        case measure => simp [intOf]
    · clear F1 F2 F3 G1 G2 G3 o0 o1 o2 o3 hk
      go_wp2_with (first
        | (go_at_call 20; have _t := hmr; refine (wakes23 _).mono ?_; rintro e w6 ⟨rfl, hb6⟩; have hm6 := hmr.call hb6; clear hmr))
      go_ret
      exact ⟨rfl, hm6.below⟩
end Go.Proofs.Ytihocpbkibfpmaa
