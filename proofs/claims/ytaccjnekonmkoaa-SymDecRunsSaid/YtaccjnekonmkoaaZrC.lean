/-
  The walk of zerorun.Add.
-/
import Derived.Test.YtaccjnekonmkoaaZrB
namespace Go.Proofs.Ytaccjnekonmkoaa
open Go Go.RowKit

theorem w64 {n : Int} (h : -9223372036854775808 ≤ n ∧ n ≤ 9223372036854775807) : wrap64 n = n := by
  unfold wrap64
  omega
def PairPost (w : World) (v e : Int) (x : Ending) (w' : World) : Prop := x = .returned (.tuple #[.int .i64 v, .int .i64 e]) ∧ Below w.heap.size w w'
def addOk (n k d : Int) : Prop := 0 ≤ n ∧ n ≤ 2147483647 ∧ 0 ≤ k ∧ k ≤ 30 ∧ (d = 0 ∨ d = 1)
instance (n k d : Int) : Decidable (addOk n k d) := by unfold addOk; infer_instance
def addS (n k d : Int) : Int := n + (1 + d) * 2 ^ k.toNat
def addV (n k d : Int) : Int := if addOk n k d ∧ addS n k d ≤ 2147483647 then addS n k d else 0
def addE (n k d : Int) : Int := if addOk n k d ∧ addS n k d ≤ 2147483647 then 0 else 2
theorem pow_le (k : Nat) (hk : k ≤ 30) : 1 ≤ (2 : Int) ^ k ∧ (2 : Int) ^ k ≤ 1073741824 := by
  have h := Nat.pow_le_pow_right (show 0 < 2 by omega) hk
  have h0 : 0 < 2 ^ k := Nat.pow_pos (by omega)
  have e : ((2 ^ k : Nat) : Int) = (2 : Int) ^ k := by push_cast; rfl
  rw [← e]
  have e2 : 2 ^ 30 = 1073741824 := by decide
  omega
set_option maxRecDepth 100000 in
set_option maxHeartbeats 1000000 in
theorem add_f0 (n k d : Int) (w : World)  (g0 : n < 0) : Calls Try.prog 38 #[.int .i64 n, .int .i64 k, .int .i64 d] w (PairPost w 0 2) := by
  go_enter Try.func38, Try.ntmps38
  have hm := Own.nil w
  go_wp2_with fail
  go_ret2
  exact ⟨rfl, hm.below⟩
set_option maxRecDepth 100000 in
set_option maxHeartbeats 1000000 in
theorem add_f1 (n k d : Int) (w : World) (g0 : ¬ n < 0) (g1 : 2147483647 < n) : Calls Try.prog 38 #[.int .i64 n, .int .i64 k, .int .i64 d] w (PairPost w 0 2) := by
  go_enter Try.func38, Try.ntmps38
  have hm := Own.nil w
  go_wp2_with fail
  go_ret2
  exact ⟨rfl, hm.below⟩
set_option maxRecDepth 100000 in
set_option maxHeartbeats 1000000 in
theorem add_f2 (n k d : Int) (w : World) (g0 : ¬ n < 0) (g1 : ¬ 2147483647 < n) (g2 : k < 0) : Calls Try.prog 38 #[.int .i64 n, .int .i64 k, .int .i64 d] w (PairPost w 0 2) := by
  go_enter Try.func38, Try.ntmps38
  have hm := Own.nil w
  go_wp2_with fail
  go_ret2
  exact ⟨rfl, hm.below⟩
set_option maxRecDepth 100000 in
set_option maxHeartbeats 1000000 in
theorem add_f3 (n k d : Int) (w : World) (g0 : ¬ n < 0) (g1 : ¬ 2147483647 < n) (g2 : ¬ k < 0) (g3 : 30 < k) : Calls Try.prog 38 #[.int .i64 n, .int .i64 k, .int .i64 d] w (PairPost w 0 2) := by
  go_enter Try.func38, Try.ntmps38
  have hm := Own.nil w
  go_wp2_with fail
  go_ret2
  exact ⟨rfl, hm.below⟩
set_option maxRecDepth 100000 in
set_option maxHeartbeats 1000000 in
theorem add_f4 (n k d : Int) (w : World) (g0 : ¬ n < 0) (g1 : ¬ 2147483647 < n) (g2 : ¬ k < 0) (g3 : ¬ 30 < k) (g4 : ¬ d = 0) (g5 : ¬ d = 1) : Calls Try.prog 38 #[.int .i64 n, .int .i64 k, .int .i64 d] w (PairPost w 0 2) := by
  have b6 : (d != 0) = true := by simpa using g4
  have b7 : (d != 1) = true := by simpa using g5
  go_enter Try.func38, Try.ntmps38
  have hm := Own.nil w
  go_wp2_with fail
  go_ret2
  exact ⟨rfl, hm.below⟩
set_option maxRecDepth 100000 in
set_option maxHeartbeats 1000000 in
theorem add_0lo (n : Int) (k : Nat) (w : World) (b1 : ¬ n < 0) (b2 : ¬ 2147483647 < n) (hk : k ≤ 30) (hs : ¬ 2147483647 < n + 2 ^ k) : Calls Try.prog 38 #[.int .i64 n, .int .i64 k, .int .i64 0] w (PairPost w (n + 2 ^ k) 0) := by
  have b3 : ¬ (k : Int) < 0 := by omega
  have b4 : ¬ (30 : Int) < k := by omega
  have hp := pow_le k hk
  have w1 : wrap64 (2 ^ k : Int) = 2 ^ k := w64 (by omega)
  have w2 : wrap64 (n + 2 ^ k) = n + 2 ^ k := w64 (by omega)
  clear hp
  go_enter Try.func38, Try.ntmps38
  have hm := Own.nil w
  go_wp2_with fail
  go_ret2
  exact ⟨rfl, hm.below⟩
set_option maxRecDepth 100000 in
set_option maxHeartbeats 1000000 in
theorem add_0hi (n : Int) (k : Nat) (w : World) (b1 : ¬ n < 0) (b2 : ¬ 2147483647 < n) (hk : k ≤ 30) (hs : 2147483647 < n + 2 ^ k) : Calls Try.prog 38 #[.int .i64 n, .int .i64 k, .int .i64 0] w (PairPost w 0 2) := by
  have b3 : ¬ (k : Int) < 0 := by omega
  have b4 : ¬ (30 : Int) < k := by omega
  have hp := pow_le k hk
  have w1 : wrap64 (2 ^ k : Int) = 2 ^ k := w64 (by omega)
  have w2 : wrap64 (n + 2 ^ k) = n + 2 ^ k := w64 (by omega)
  clear hp
  go_enter Try.func38, Try.ntmps38
  have hm := Own.nil w
  go_wp2_with fail
  go_ret2
  exact ⟨rfl, hm.below⟩
set_option maxRecDepth 100000 in
set_option maxHeartbeats 1000000 in
theorem add_1lo (n : Int) (k : Nat) (w : World) (b1 : ¬ n < 0) (b2 : ¬ 2147483647 < n) (hk : k ≤ 30) (hs : ¬ 2147483647 < n + 2 * 2 ^ k) : Calls Try.prog 38 #[.int .i64 n, .int .i64 k, .int .i64 1] w (PairPost w (n + 2 * 2 ^ k) 0) := by
  have b3 : ¬ (k : Int) < 0 := by omega
  have b4 : ¬ (30 : Int) < k := by omega
  have hp := pow_le k hk
  have w1 : wrap64 (2 * 2 ^ k : Int) = 2 * 2 ^ k := w64 (by omega)
  have w2 : wrap64 (n + 2 * 2 ^ k) = n + 2 * 2 ^ k := w64 (by omega)
  clear hp
  go_enter Try.func38, Try.ntmps38
  have hm := Own.nil w
  go_wp2_with fail
  go_ret2
  exact ⟨rfl, hm.below⟩
set_option maxRecDepth 100000 in
set_option maxHeartbeats 1000000 in
theorem add_1hi (n : Int) (k : Nat) (w : World) (b1 : ¬ n < 0) (b2 : ¬ 2147483647 < n) (hk : k ≤ 30) (hs : 2147483647 < n + 2 * 2 ^ k) : Calls Try.prog 38 #[.int .i64 n, .int .i64 k, .int .i64 1] w (PairPost w 0 2) := by
  have b3 : ¬ (k : Int) < 0 := by omega
  have b4 : ¬ (30 : Int) < k := by omega
  have hp := pow_le k hk
  have w1 : wrap64 (2 * 2 ^ k : Int) = 2 * 2 ^ k := w64 (by omega)
  have w2 : wrap64 (n + 2 * 2 ^ k) = n + 2 * 2 ^ k := w64 (by omega)
  clear hp
  go_enter Try.func38, Try.ntmps38
  have hm := Own.nil w
  go_wp2_with fail
  go_ret2
  exact ⟨rfl, hm.below⟩
theorem add_any (n k d : Int) (w : World) : Calls Try.prog 38 #[.int .i64 n, .int .i64 k, .int .i64 d] w (PairPost w (addV n k d) (addE n k d)) := by
  by_cases ha : addOk n k d
  · obtain ⟨h1, h2, h3, h4, hd⟩ := ha
    have ha : addOk n k d := ⟨h1, h2, h3, h4, hd⟩
    obtain ⟨k, rfl⟩ := Int.eq_ofNat_of_zero_le h3
    by_cases hs : addS n k d ≤ 2147483647
    · rw [addV, addE, if_pos ⟨ha, hs⟩, if_pos ⟨ha, hs⟩]
      rcases hd with rfl | rfl
      · have e : addS n k 0 = n + 2 ^ k := by simp [addS]
        rw [e] at hs ⊢
        exact add_0lo n k w (by omega) (by omega) (by omega) (by omega)
      · have e : addS n k 1 = n + 2 * 2 ^ k := by simp [addS]
        rw [e] at hs ⊢
        exact add_1lo n k w (by omega) (by omega) (by omega) (by omega)
    · rw [addV, addE, if_neg (fun h => hs h.2), if_neg (fun h => hs h.2)]
      rcases hd with rfl | rfl
      · have e : addS n k 0 = n + 2 ^ k := by simp [addS]
        rw [e] at hs
        exact add_0hi n k w (by omega) (by omega) (by omega) (by omega)
      · have e : addS n k 1 = n + 2 * 2 ^ k := by simp [addS]
        rw [e] at hs
        exact add_1hi n k w (by omega) (by omega) (by omega) (by omega)
  · rw [addV, addE, if_neg (fun h => ha h.1), if_neg (fun h => ha h.1)]
    by_cases g0 : n < 0
    · exact add_f0 n k d w g0
    by_cases g1 : 2147483647 < n
    · exact add_f1 n k d w g0 g1
    by_cases g2 : k < 0
    · exact add_f2 n k d w g0 g1 g2
    by_cases g3 : 30 < k
    · exact add_f3 n k d w g0 g1 g2 g3
    exact add_f4 n k d w g0 g1 g2 g3 (fun h => ha ⟨by omega, by omega, by omega, by omega, .inl h⟩) (fun h => ha ⟨by omega, by omega, by omega, by omega, .inr h⟩)
end Go.Proofs.Ytaccjnekonmkoaa
