/-
  The walk of the reference's Layout.
-/
import Derived.Test.YtihocpbkibfpmaaPolB
namespace Go.Proofs.Ytihocpbkibfpmaa
open Go Go.RowKit

set_option maxRecDepth 100000 in
set_option maxHeartbeats 1000000 in
theorem rl11 (n : Int) (w : World) (h1 : 1 ≤ n) (h2 : n ≤ 65536) : Calls Try.prog 8 #[.int .i64 n, .int .u8 1, .int .u8 1] w (LayPost w [n] 0) := by
  have b1 : ¬ n < 1 := by omega
  have b2 : ¬ 65536 < n := by omega
  go_enter Try.func8, Try.ntmps8
  have hm := Own.nil w
  go_wp2_with (first
    | (refine wpList_lit1_o hm rfl rfl rfl ?_; intro w1 g1 hm1; clear hm))
  go_ret2
  exact ⟨⟨_, rfl, own_len (hm1.get 0 rfl)⟩, hm1.below⟩
set_option maxRecDepth 100000 in
set_option maxHeartbeats 1000000 in
theorem rl12 (n : Int) (w : World) (h1 : 1 ≤ n) (h2 : n ≤ 65536) : Calls Try.prog 8 #[.int .i64 n, .int .u8 1, .int .u8 2] w (LayPost w [n] 0) := by
  have b1 : ¬ n < 1 := by omega
  have b2 : ¬ 65536 < n := by omega
  go_enter Try.func8, Try.ntmps8
  have hm := Own.nil w
  go_wp2_with (first
    | (refine wpList_lit1_o hm rfl rfl rfl ?_; intro w1 g1 hm1; clear hm))
  go_ret2
  exact ⟨⟨_, rfl, own_len (hm1.get 0 rfl)⟩, hm1.below⟩
set_option maxRecDepth 100000 in
set_option maxHeartbeats 1000000 in
theorem rl13lo (n : Int) (w : World) (h1 : 1 ≤ n) (h2 : n ≤ 65536) (h3 : ¬ 1024 < n + 1) : Calls Try.prog 8 #[.int .i64 n, .int .u8 1, .int .u8 3] w (LayPost w [n, n, 4 * (n + 1)] 0) := by
  have b1 : ¬ n < 1 := by omega
  have b2 : ¬ 65536 < n := by omega
  go_enter Try.func8, Try.ntmps8
  have hm := Own.nil w
  go_wp2_with (first
    | (refine wpList_lit3_o hm rfl rfl rfl rfl rfl ?_; intro w1 g1 hm1; clear hm))
  go_ret2
  exact ⟨⟨_, rfl, own_len (hm1.get 0 rfl)⟩, hm1.below⟩
set_option maxRecDepth 100000 in
set_option maxHeartbeats 1000000 in
theorem rl13hi (n : Int) (w : World) (h1 : 1 ≤ n) (h2 : n ≤ 65536) (h3 : 1024 < n + 1) : Calls Try.prog 8 #[.int .i64 n, .int .u8 1, .int .u8 3] w (LayPost w [n, n, 4 * 1024] 0) := by
  have b1 : ¬ n < 1 := by omega
  have b2 : ¬ 65536 < n := by omega
  go_enter Try.func8, Try.ntmps8
  have hm := Own.nil w
  go_wp2_with (first
    | (refine wpList_lit3_o hm rfl rfl rfl rfl rfl ?_; intro w1 g1 hm1; clear hm))
  go_ret2
  exact ⟨⟨_, rfl, own_len (hm1.get 0 rfl)⟩, hm1.below⟩
set_option maxRecDepth 100000 in
set_option maxHeartbeats 1000000 in
theorem rl21 (n : Int) (w : World) (h1 : 1 ≤ n) (h2 : n ≤ 65536) : Calls Try.prog 8 #[.int .i64 n, .int .u8 2, .int .u8 1] w (LayPost w [n, 1024 * (n / 8192)] 0) := by
  have b1 : ¬ n < 1 := by omega
  have b2 : ¬ 65536 < n := by omega
  go_enter Try.func8, Try.ntmps8
  have hm := Own.nil w
  go_wp2_with (first
    | (refine wpList_lit2_o hm rfl rfl rfl rfl ?_; intro w1 g1 hm1; clear hm))
  go_ret2
  exact ⟨⟨_, rfl, own_len (hm1.get 0 rfl)⟩, hm1.below⟩
set_option maxRecDepth 100000 in
set_option maxHeartbeats 1000000 in
theorem rl22 (n : Int) (w : World) (h1 : 1 ≤ n) (h2 : n ≤ 65536) : Calls Try.prog 8 #[.int .i64 n, .int .u8 2, .int .u8 2] w (LayPost w [n, 1024 * (n / 1024)] 0) := by
  have b1 : ¬ n < 1 := by omega
  have b2 : ¬ 65536 < n := by omega
  go_enter Try.func8, Try.ntmps8
  have hm := Own.nil w
  go_wp2_with (first
    | (refine wpList_lit2_o hm rfl rfl rfl rfl ?_; intro w1 g1 hm1; clear hm))
  go_ret2
  exact ⟨⟨_, rfl, own_len (hm1.get 0 rfl)⟩, hm1.below⟩
set_option maxRecDepth 100000 in
set_option maxHeartbeats 1000000 in
theorem rl23 (n : Int) (w : World) (h1 : 1 ≤ n) (h2 : n ≤ 65536) : Calls Try.prog 8 #[.int .i64 n, .int .u8 2, .int .u8 3] w (LayPost w [n, 4 * (n + 1)] 0) := by
  have b1 : ¬ n < 1 := by omega
  have b2 : ¬ 65536 < n := by omega
  go_enter Try.func8, Try.ntmps8
  have hm := Own.nil w
  go_wp2_with (first
    | (refine wpList_lit2_o hm rfl rfl rfl rfl ?_; intro w1 g1 hm1; clear hm))
  go_ret2
  exact ⟨⟨_, rfl, own_len (hm1.get 0 rfl)⟩, hm1.below⟩
set_option maxRecDepth 100000 in
set_option maxHeartbeats 1000000 in
theorem rlA (n s m : Int) (w : World) (h : n < 1) : Calls Try.prog 8 #[.int .i64 n, .int .u8 s, .int .u8 m] w (LayPost w [] 2) := by
  go_enter Try.func8, Try.ntmps8
  have hm := Own.nil w
  go_wp2_with fail
  go_ret2
  exact ⟨⟨_, rfl, World.ownsRow_nil _ _ _ _⟩, hm.below⟩
set_option maxRecDepth 100000 in
set_option maxHeartbeats 1000000 in
theorem rlB (n s m : Int) (w : World) (h : 65536 < n) : Calls Try.prog 8 #[.int .i64 n, .int .u8 s, .int .u8 m] w (LayPost w [] 2) := by
  have b1 : ¬ n < 1 := by omega
  go_enter Try.func8, Try.ntmps8
  have hm := Own.nil w
  go_wp2_with fail
  go_ret2
  exact ⟨⟨_, rfl, World.ownsRow_nil _ _ _ _⟩, hm.below⟩
set_option maxRecDepth 100000 in
set_option maxHeartbeats 1000000 in
theorem rlC (n s m : Int) (w : World) (h1 : 1 ≤ n) (h2 : n ≤ 65536) (h3 : ¬ s = 1) (h4 : ¬ s = 2) : Calls Try.prog 8 #[.int .i64 n, .int .u8 s, .int .u8 m] w (LayPost w [] 2) := by
  have b1 : ¬ n < 1 := by omega
  have b2 : ¬ 65536 < n := by omega
  have b3 : decide (s = 1) = false := decide_eq_false h3
  have b4 : decide (s = 2) = false := decide_eq_false h4
  have b5 : (s == 1) = false := by simpa using h3
  have b6 : (s == 2) = false := by simpa using h4
  go_enter Try.func8, Try.ntmps8
  have hm := Own.nil w
  go_wp2_with fail
  go_ret2
  exact ⟨⟨_, rfl, World.ownsRow_nil _ _ _ _⟩, hm.below⟩
set_option maxRecDepth 100000 in
set_option maxHeartbeats 1000000 in
theorem rlD1 (n m : Int) (w : World) (h1 : 1 ≤ n) (h2 : n ≤ 65536) (h3 : m < 1) : Calls Try.prog 8 #[.int .i64 n, .int .u8 1, .int .u8 m] w (LayPost w [] 2) := by
  have b1 : ¬ n < 1 := by omega
  have b2 : ¬ 65536 < n := by omega
  go_enter Try.func8, Try.ntmps8
  have hm := Own.nil w
  go_wp2_with fail
  go_ret2
  exact ⟨⟨_, rfl, World.ownsRow_nil _ _ _ _⟩, hm.below⟩
set_option maxRecDepth 100000 in
set_option maxHeartbeats 1000000 in
theorem rlE1 (n m : Int) (w : World) (h1 : 1 ≤ n) (h2 : n ≤ 65536) (h3 : 3 < m) : Calls Try.prog 8 #[.int .i64 n, .int .u8 1, .int .u8 m] w (LayPost w [] 2) := by
  have b1 : ¬ n < 1 := by omega
  have b2 : ¬ 65536 < n := by omega
  have b3 : ¬ m < 1 := by omega
  go_enter Try.func8, Try.ntmps8
  have hm := Own.nil w
  go_wp2_with fail
  go_ret2
  exact ⟨⟨_, rfl, World.ownsRow_nil _ _ _ _⟩, hm.below⟩
set_option maxRecDepth 100000 in
set_option maxHeartbeats 1000000 in
theorem rlD2 (n m : Int) (w : World) (h1 : 1 ≤ n) (h2 : n ≤ 65536) (h3 : m < 1) : Calls Try.prog 8 #[.int .i64 n, .int .u8 2, .int .u8 m] w (LayPost w [] 2) := by
  have b1 : ¬ n < 1 := by omega
  have b2 : ¬ 65536 < n := by omega
  go_enter Try.func8, Try.ntmps8
  have hm := Own.nil w
  go_wp2_with fail
  go_ret2
  exact ⟨⟨_, rfl, World.ownsRow_nil _ _ _ _⟩, hm.below⟩
set_option maxRecDepth 100000 in
set_option maxHeartbeats 1000000 in
theorem rlE2 (n m : Int) (w : World) (h1 : 1 ≤ n) (h2 : n ≤ 65536) (h3 : 3 < m) : Calls Try.prog 8 #[.int .i64 n, .int .u8 2, .int .u8 m] w (LayPost w [] 2) := by
  have b1 : ¬ n < 1 := by omega
  have b2 : ¬ 65536 < n := by omega
  have b3 : ¬ m < 1 := by omega
  go_enter Try.func8, Try.ntmps8
  have hm := Own.nil w
  go_wp2_with fail
  go_ret2
  exact ⟨⟨_, rfl, World.ownsRow_nil _ _ _ _⟩, hm.below⟩
theorem rlayout_any (n s m : Int) (w : World) (hm : (Lit.int .u8 m).wf = true) : Calls Try.prog 8 #[.int .i64 n, .int .u8 s, .int .u8 m] w (LayPost w (lay n s m) (er n s m)) := by
  by_cases ha : argOk n s m
  · rw [lay, er, if_pos ha, if_pos ha]
    obtain ⟨h1, h2, rfl | rfl, rfl | rfl | rfl⟩ := ha
    · exact rl11 n w h1 h2
    · exact rl12 n w h1 h2
    · by_cases h3 : 1024 < n + 1
      · have e : rowsOf n = 1024 := if_pos h3
        show Calls _ _ _ _ (LayPost w [n, n, 4 * rowsOf n] 0)
        rw [e]
        exact rl13hi n w h1 h2 h3
      · have e : rowsOf n = n + 1 := if_neg h3
        show Calls _ _ _ _ (LayPost w [n, n, 4 * rowsOf n] 0)
        rw [e]
        exact rl13lo n w h1 h2 h3
    · exact rl21 n w h1 h2
    · exact rl22 n w h1 h2
    · exact rl23 n w h1 h2
  · rw [lay, er, if_neg ha, if_neg ha]
    by_cases h1 : n < 1
    · exact rlA n s m w h1
    by_cases h2 : 65536 < n
    · exact rlB n s m w h2
    have h1' : 1 ≤ n := by omega
    have h2' : n ≤ 65536 := by omega
    by_cases hs : s = 1 ∨ s = 2
    · have hm' : m < 1 ∨ 3 < m := by
        by_cases h : m < 1
        · exact .inl h
        · refine .inr ?_
          by_cases h3 : 3 < m
          · exact h3
          · exact absurd ⟨h1', h2', hs, by omega⟩ ha
      rcases hs with rfl | rfl <;> rcases hm' with h | h
      · exact rlD1 n m w h1' h2' h
      · exact rlE1 n m w h1' h2' h
      · exact rlD2 n m w h1' h2' h
      · exact rlE2 n m w h1' h2' h
    · exact rlC n s m w h1' h2' (fun h => hs (.inl h)) (fun h => hs (.inr h))
end Go.Proofs.Ytihocpbkibfpmaa
