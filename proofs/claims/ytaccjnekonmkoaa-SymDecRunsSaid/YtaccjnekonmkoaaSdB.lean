/-
  What the decoder holds for a valid state, told plainly; the walks of New and Valid, and of their references.
-/
import Derived.Test.YtaccjnekonmkoaaSdA
import Derived.Test.YtaccjnekonmkoaaSeQ
namespace Go.Proofs.Ytaccjnekonmkoaa
open Go Go.RowKit

theorem len_dg_bounds (k : Nat) : ∀ n, n ≤ k → 2 ^ (dg n).length ≤ n + 1 ∧ n + 1 < 2 ^ ((dg n).length + 1) := by
  induction k with
  | zero => intro n hn; obtain rfl : n = 0 := by omega
            rw [dg_zero]; simp
  | succ k ih =>
    intro n hn
    by_cases h0 : n = 0
    · subst h0; rw [dg_zero]; simp
    · rw [dg_step n (by omega), List.length_cons]
      obtain ⟨h1, h2⟩ := ih ((n - 1) / 2) (by omega)
      generalize (dg ((n - 1) / 2)).length = m at *
      rw [Nat.pow_succ] at h2
      rw [Nat.pow_succ, Nat.pow_succ, Nat.pow_succ]
      omega
theorem len_dg_iff (n d : Nat) : (dg n).length = d ↔ 2 ^ d - 1 ≤ n ∧ n ≤ 2 * (2 ^ d - 1) := by
  obtain ⟨h1, h2⟩ := len_dg_bounds n n (Nat.le_refl _)
  have hp : 0 < 2 ^ d := Nat.pow_pos (by omega)
  constructor
  · rintro rfl
    rw [Nat.pow_succ] at h2
    omega
  · rintro ⟨h3, h4⟩
    rcases Nat.lt_trichotomy (dg n).length d with h | h | h
    · have := Nat.pow_le_pow_right (show 0 < 2 by omega) (show (dg n).length + 1 ≤ d by omega)
      omega
    · exact h
    · have := Nat.pow_le_pow_right (show 0 < 2 by omega) (show d + 1 ≤ (dg n).length by omega)
      rw [Nat.pow_succ] at this
      omega
/-- Is a state valid? -/
def dOk (b : DS) : Bool := vld b.l && (decide (0 ≤ b.left ∧ b.left ≤ 65536 ∧ 0 ≤ b.run ∧ b.run ≤ b.left ∧ 0 ≤ b.dig ∧ b.dig ≤ 16 ∧ ((dg b.run.toNat).length : Int) = b.dig) && (!b.fin || decide (b.left = 0 ∧ b.run = 0 ∧ b.dig = 0)))
/-- The state to begin with. -/
def dNew (most : Int) : DS := if 1 ≤ most ∧ most ≤ 65536 then ⟨new, most, 0, 0, false⟩ else DS0
theorem len_dNew (most : Int) : (dNew most).l.length = 256 := by
  rw [dNew]; split
  · exact len_new
  · exact len_zeros
set_option maxRecDepth 100000 in
set_option maxHeartbeats 1000000 in
theorem dnew_in (most : Int) (w : World) (h0 : ¬ most < 1) (h1 : ¬ 65536 < most) : Calls Try.prog 62 #[.int .i64 most] w fun e w' => (e = .returned (.agg (V ⟨new, most, 0, 0, false⟩))) ∧ Below w.heap.size w w' := by
  go_enter Try.func62, Try.ntmps62
  have hm := Own.nil w
  go_wp2_with (first
    | (refine wpList_alloc_o hm rfl rfl zero70 ?_; intro w2 g2 hm2; clear hm)
    | (go_at_call 27; have _t := hm2; refine (new_any _).mono ?_; rintro e w3 ⟨rfl, hb3⟩; have hm3 := hm2.call hb3; clear hm2)
    | (refine wpList_run rfl (exec_build70_1 rfl rfl rfl len_new) ?_)
    | (refine wpList_store_o 0 hm3 rfl rfl rfl rfl rfl (aggV (b := ⟨new, most, 0, 0, false⟩) len_new) (size_VV (b := ⟨new, most, 0, 0, false⟩) len_new len_DS0) (V_one _) ?_; intro w4 hm4; simp only [List.set] at hm4; clear hm3))
  refine bodyPost_ret (results_agg1 rfl rfl (hm4.row 0 rfl) (aggV (b := ⟨new, most, 0, 0, false⟩) len_new)) rfl ?_
  exact ⟨rfl, hm4.below⟩
set_option maxRecDepth 100000 in
set_option maxHeartbeats 1000000 in
theorem dnew_lo (most : Int) (w : World) (h0 : most < 1) : Calls Try.prog 62 #[.int .i64 most] w fun e w' => (e = .returned (.agg (V DS0))) ∧ Below w.heap.size w w' := by
  go_enter Try.func62, Try.ntmps62
  have hm := Own.nil w
  go_wp2_with (first
    | (refine wpList_alloc_o hm rfl rfl zero70 ?_; intro w2 g2 hm2; clear hm)
    | (refine wpList_load_all rfl rfl rfl (hm2.row 0 rfl) (aggV len_DS0) ?_)
    | (refine wpList_store_o 0 hm2 rfl rfl rfl rfl rfl (aggV len_DS0) (size_VV len_DS0 len_DS0) (V_one _) ?_; intro w4 hm4; simp only [List.set] at hm4; clear hm2))
  refine bodyPost_ret (results_agg1 rfl rfl (hm4.row 0 rfl) (aggV len_DS0)) rfl ?_
  exact ⟨rfl, hm4.below⟩
set_option maxRecDepth 100000 in
set_option maxHeartbeats 1000000 in
theorem dnew_hi (most : Int) (w : World) (h0 : ¬ most < 1) (h1 : 65536 < most) : Calls Try.prog 62 #[.int .i64 most] w fun e w' => (e = .returned (.agg (V DS0))) ∧ Below w.heap.size w w' := by
  go_enter Try.func62, Try.ntmps62
  have hm := Own.nil w
  go_wp2_with (first
    | (refine wpList_alloc_o hm rfl rfl zero70 ?_; intro w2 g2 hm2; clear hm)
    | (refine wpList_load_all rfl rfl rfl (hm2.row 0 rfl) (aggV len_DS0) ?_)
    | (refine wpList_store_o 0 hm2 rfl rfl rfl rfl rfl (aggV len_DS0) (size_VV len_DS0 len_DS0) (V_one _) ?_; intro w4 hm4; simp only [List.set] at hm4; clear hm2))
  refine bodyPost_ret (results_agg1 rfl rfl (hm4.row 0 rfl) (aggV len_DS0)) rfl ?_
  exact ⟨rfl, hm4.below⟩
theorem dnew_any (most : Int) (w : World) : Calls Try.prog 62 #[.int .i64 most] w fun e w' => (e = .returned (.agg (V (dNew most)))) ∧ Below w.heap.size w w' := by
  by_cases h0 : most < 1
  · rw [dNew, if_neg (by omega)]; exact dnew_lo most w h0
  by_cases h1 : 65536 < most
  · rw [dNew, if_neg (by omega)]; exact dnew_hi most w h0 h1
  · rw [dNew, if_pos (by omega)]; exact dnew_in most w h0 h1
set_option maxRecDepth 100000 in
set_option maxHeartbeats 1000000 in
theorem rdnew_in (most : Int) (w : World) (h0 : ¬ most < 1) (h1 : ¬ 65536 < most) : Calls Try.prog 63 #[.int .i64 most] w fun e w' => (e = .returned (.agg (V ⟨new, most, 0, 0, false⟩))) ∧ Below w.heap.size w w' := by
  go_enter Try.func63, Try.ntmps63
  have hm := Own.nil w
  go_wp2_with (first
    | (refine wpList_alloc_o hm rfl rfl zero70 ?_; intro w2 g2 hm2; clear hm)
    | (go_at_call 28; have _t := hm2; refine (rnew_any _).mono ?_; rintro e w3 ⟨rfl, hb3⟩; have hm3 := hm2.call hb3; clear hm2)
    | (refine wpList_run rfl (exec_build70_1 rfl rfl rfl len_new) ?_)
    | (refine wpList_store_o 0 hm3 rfl rfl rfl rfl rfl (aggV (b := ⟨new, most, 0, 0, false⟩) len_new) (size_VV (b := ⟨new, most, 0, 0, false⟩) len_new len_DS0) (V_one _) ?_; intro w4 hm4; simp only [List.set] at hm4; clear hm3))
  refine bodyPost_ret (results_agg1 rfl rfl (hm4.row 0 rfl) (aggV (b := ⟨new, most, 0, 0, false⟩) len_new)) rfl ?_
  exact ⟨rfl, hm4.below⟩
set_option maxRecDepth 100000 in
set_option maxHeartbeats 1000000 in
theorem rdnew_lo (most : Int) (w : World) (h0 : most < 1) : Calls Try.prog 63 #[.int .i64 most] w fun e w' => (e = .returned (.agg (V DS0))) ∧ Below w.heap.size w w' := by
  go_enter Try.func63, Try.ntmps63
  have hm := Own.nil w
  go_wp2_with (first
    | (refine wpList_alloc_o hm rfl rfl zero70 ?_; intro w2 g2 hm2; clear hm)
    | (refine wpList_run rfl (exec_build70_0 rfl) ?_)
    | (refine wpList_store_o 0 hm2 rfl rfl rfl rfl rfl (aggV len_DS0) (size_VV len_DS0 len_DS0) (V_one _) ?_; intro w4 hm4; simp only [List.set] at hm4; clear hm2))
  refine bodyPost_ret (results_agg1 rfl rfl (hm4.row 0 rfl) (aggV len_DS0)) rfl ?_
  exact ⟨rfl, hm4.below⟩
set_option maxRecDepth 100000 in
set_option maxHeartbeats 1000000 in
theorem rdnew_hi (most : Int) (w : World) (h0 : ¬ most < 1) (h1 : 65536 < most) : Calls Try.prog 63 #[.int .i64 most] w fun e w' => (e = .returned (.agg (V DS0))) ∧ Below w.heap.size w w' := by
  go_enter Try.func63, Try.ntmps63
  have hm := Own.nil w
  go_wp2_with (first
    | (refine wpList_alloc_o hm rfl rfl zero70 ?_; intro w2 g2 hm2; clear hm)
    | (refine wpList_run rfl (exec_build70_0 rfl) ?_)
    | (refine wpList_store_o 0 hm2 rfl rfl rfl rfl rfl (aggV len_DS0) (size_VV len_DS0 len_DS0) (V_one _) ?_; intro w4 hm4; simp only [List.set] at hm4; clear hm2))
  refine bodyPost_ret (results_agg1 rfl rfl (hm4.row 0 rfl) (aggV len_DS0)) rfl ?_
  exact ⟨rfl, hm4.below⟩
theorem rdnew_any (most : Int) (w : World) : Calls Try.prog 63 #[.int .i64 most] w fun e w' => (e = .returned (.agg (V (dNew most)))) ∧ Below w.heap.size w w' := by
  by_cases h0 : most < 1
  · rw [dNew, if_neg (by omega)]; exact rdnew_lo most w h0
  by_cases h1 : 65536 < most
  · rw [dNew, if_neg (by omega)]; exact rdnew_hi most w h0 h1
  · rw [dNew, if_pos (by omega)]; exact rdnew_in most w h0 h1
set_option maxRecDepth 100000 in
set_option maxHeartbeats 2000000 in
theorem dv_v (b : DS) (w : World) (hl : b.l.length = 256) (CV : Hid (∀ w, Calls Try.prog 25 #[.agg (B b.l)] w fun e w' => (e = .returned (.bool false)) ∧ Below w.heap.size w w')) : Calls Try.prog 60 #[.agg (V b)] w fun e w' => (e = .returned (.bool false)) ∧ Below w.heap.size w w' := by
  go_enter Try.func60, Try.ntmps60
  have hm := Own.nil w
  go_wp2_with (first
    | (refine wpList_box_o hm rfl rfl rfl ?_; intro w1 g hm1; clear hm)
    | (refine wpList_load_part rfl rfl rfl (hm1.row 0 rfl) (aggB _ hl) (extract_V hl) (fitV hl) ?_)
    | (go_at_call 25; have _t := hm1; refine (CV.out _).mono ?_; rintro e w2 ⟨rfl, hb2⟩; have hm2 := hm1.call hb2; clear hm1)
    | (refine wpList_run rfl (exec_loadcell' (off := 256) rfl rfl (hm2.row 0 rfl) one3 (getV1 hl)) ?_)
    | (refine wpList_run rfl (exec_loadcell' (off := 257) rfl rfl (hm2.row 0 rfl) one3 (getV2 hl)) ?_)
    | (refine wpList_run rfl (exec_loadcell' (off := 258) rfl rfl (hm2.row 0 rfl) one3 (getV3 hl)) ?_)
    | (refine wpList_run rfl (exec_loadcell' (off := 259) rfl rfl (hm2.row 0 rfl) one4 (getV4 hl)) ?_))
  go_ret
  exact ⟨rfl, hm2.below⟩
set_option maxRecDepth 100000 in
set_option maxHeartbeats 2000000 in
theorem dv_1 (b : DS) (w : World) (hl : b.l.length = 256) (CV : Hid (∀ w, Calls Try.prog 25 #[.agg (B b.l)] w fun e w' => (e = .returned (.bool true)) ∧ Below w.heap.size w w')) (h1 : b.left < 0) : Calls Try.prog 60 #[.agg (V b)] w fun e w' => (e = .returned (.bool false)) ∧ Below w.heap.size w w' := by
  have q1 : decide (b.left < 0) = true := decide_eq_true h1
  go_enter Try.func60, Try.ntmps60
  have hm := Own.nil w
  go_wp2_with (first
    | (refine wpList_box_o hm rfl rfl rfl ?_; intro w1 g hm1; clear hm)
    | (refine wpList_load_part rfl rfl rfl (hm1.row 0 rfl) (aggB _ hl) (extract_V hl) (fitV hl) ?_)
    | (go_at_call 25; have _t := hm1; refine (CV.out _).mono ?_; rintro e w2 ⟨rfl, hb2⟩; have hm2 := hm1.call hb2; clear hm1)
    | (refine wpList_run rfl (exec_loadcell' (off := 256) rfl rfl (hm2.row 0 rfl) one3 (getV1 hl)) ?_)
    | (refine wpList_run rfl (exec_loadcell' (off := 257) rfl rfl (hm2.row 0 rfl) one3 (getV2 hl)) ?_)
    | (refine wpList_run rfl (exec_loadcell' (off := 258) rfl rfl (hm2.row 0 rfl) one3 (getV3 hl)) ?_)
    | (refine wpList_run rfl (exec_loadcell' (off := 259) rfl rfl (hm2.row 0 rfl) one4 (getV4 hl)) ?_))
  go_ret
  exact ⟨rfl, hm2.below⟩
set_option maxRecDepth 100000 in
set_option maxHeartbeats 2000000 in
theorem dv_2 (b : DS) (w : World) (hl : b.l.length = 256) (CV : Hid (∀ w, Calls Try.prog 25 #[.agg (B b.l)] w fun e w' => (e = .returned (.bool true)) ∧ Below w.heap.size w w')) (h1 : ¬ b.left < 0) (h2 : 65536 < b.left) : Calls Try.prog 60 #[.agg (V b)] w fun e w' => (e = .returned (.bool false)) ∧ Below w.heap.size w w' := by
  have q1 : decide (b.left < 0) = false := decide_eq_false h1
  have q2 : decide (65536 < b.left) = true := decide_eq_true h2
  go_enter Try.func60, Try.ntmps60
  have hm := Own.nil w
  go_wp2_with (first
    | (refine wpList_box_o hm rfl rfl rfl ?_; intro w1 g hm1; clear hm)
    | (refine wpList_load_part rfl rfl rfl (hm1.row 0 rfl) (aggB _ hl) (extract_V hl) (fitV hl) ?_)
    | (go_at_call 25; have _t := hm1; refine (CV.out _).mono ?_; rintro e w2 ⟨rfl, hb2⟩; have hm2 := hm1.call hb2; clear hm1)
    | (refine wpList_run rfl (exec_loadcell' (off := 256) rfl rfl (hm2.row 0 rfl) one3 (getV1 hl)) ?_)
    | (refine wpList_run rfl (exec_loadcell' (off := 257) rfl rfl (hm2.row 0 rfl) one3 (getV2 hl)) ?_)
    | (refine wpList_run rfl (exec_loadcell' (off := 258) rfl rfl (hm2.row 0 rfl) one3 (getV3 hl)) ?_)
    | (refine wpList_run rfl (exec_loadcell' (off := 259) rfl rfl (hm2.row 0 rfl) one4 (getV4 hl)) ?_))
  go_ret
  exact ⟨rfl, hm2.below⟩
set_option maxRecDepth 100000 in
set_option maxHeartbeats 2000000 in
theorem dv_3 (b : DS) (w : World) (hl : b.l.length = 256) (CV : Hid (∀ w, Calls Try.prog 25 #[.agg (B b.l)] w fun e w' => (e = .returned (.bool true)) ∧ Below w.heap.size w w')) (h1 : ¬ b.left < 0) (h2 : ¬ 65536 < b.left) (h3 : b.run < 0) : Calls Try.prog 60 #[.agg (V b)] w fun e w' => (e = .returned (.bool false)) ∧ Below w.heap.size w w' := by
  have q1 : decide (b.left < 0) = false := decide_eq_false h1
  have q2 : decide (65536 < b.left) = false := decide_eq_false h2
  have q3 : decide (b.run < 0) = true := decide_eq_true h3
  go_enter Try.func60, Try.ntmps60
  have hm := Own.nil w
  go_wp2_with (first
    | (refine wpList_box_o hm rfl rfl rfl ?_; intro w1 g hm1; clear hm)
    | (refine wpList_load_part rfl rfl rfl (hm1.row 0 rfl) (aggB _ hl) (extract_V hl) (fitV hl) ?_)
    | (go_at_call 25; have _t := hm1; refine (CV.out _).mono ?_; rintro e w2 ⟨rfl, hb2⟩; have hm2 := hm1.call hb2; clear hm1)
    | (refine wpList_run rfl (exec_loadcell' (off := 256) rfl rfl (hm2.row 0 rfl) one3 (getV1 hl)) ?_)
    | (refine wpList_run rfl (exec_loadcell' (off := 257) rfl rfl (hm2.row 0 rfl) one3 (getV2 hl)) ?_)
    | (refine wpList_run rfl (exec_loadcell' (off := 258) rfl rfl (hm2.row 0 rfl) one3 (getV3 hl)) ?_)
    | (refine wpList_run rfl (exec_loadcell' (off := 259) rfl rfl (hm2.row 0 rfl) one4 (getV4 hl)) ?_))
  go_ret
  exact ⟨rfl, hm2.below⟩
set_option maxRecDepth 100000 in
set_option maxHeartbeats 2000000 in
theorem dv_4 (b : DS) (w : World) (hl : b.l.length = 256) (CV : Hid (∀ w, Calls Try.prog 25 #[.agg (B b.l)] w fun e w' => (e = .returned (.bool true)) ∧ Below w.heap.size w w')) (h1 : ¬ b.left < 0) (h2 : ¬ 65536 < b.left) (h3 : ¬ b.run < 0) (h4 : b.left < b.run) : Calls Try.prog 60 #[.agg (V b)] w fun e w' => (e = .returned (.bool false)) ∧ Below w.heap.size w w' := by
  have q1 : decide (b.left < 0) = false := decide_eq_false h1
  have q2 : decide (65536 < b.left) = false := decide_eq_false h2
  have q3 : decide (b.run < 0) = false := decide_eq_false h3
  have q4 : decide (b.left < b.run) = true := decide_eq_true h4
  go_enter Try.func60, Try.ntmps60
  have hm := Own.nil w
  go_wp2_with (first
    | (refine wpList_box_o hm rfl rfl rfl ?_; intro w1 g hm1; clear hm)
    | (refine wpList_load_part rfl rfl rfl (hm1.row 0 rfl) (aggB _ hl) (extract_V hl) (fitV hl) ?_)
    | (go_at_call 25; have _t := hm1; refine (CV.out _).mono ?_; rintro e w2 ⟨rfl, hb2⟩; have hm2 := hm1.call hb2; clear hm1)
    | (refine wpList_run rfl (exec_loadcell' (off := 256) rfl rfl (hm2.row 0 rfl) one3 (getV1 hl)) ?_)
    | (refine wpList_run rfl (exec_loadcell' (off := 257) rfl rfl (hm2.row 0 rfl) one3 (getV2 hl)) ?_)
    | (refine wpList_run rfl (exec_loadcell' (off := 258) rfl rfl (hm2.row 0 rfl) one3 (getV3 hl)) ?_)
    | (refine wpList_run rfl (exec_loadcell' (off := 259) rfl rfl (hm2.row 0 rfl) one4 (getV4 hl)) ?_))
  go_ret
  exact ⟨rfl, hm2.below⟩
set_option maxRecDepth 100000 in
set_option maxHeartbeats 2000000 in
theorem dv_5 (b : DS) (w : World) (hl : b.l.length = 256) (CV : Hid (∀ w, Calls Try.prog 25 #[.agg (B b.l)] w fun e w' => (e = .returned (.bool true)) ∧ Below w.heap.size w w')) (h1 : ¬ b.left < 0) (h2 : ¬ 65536 < b.left) (h3 : ¬ b.run < 0) (h4 : ¬ b.left < b.run) (h5 : b.dig < 0) : Calls Try.prog 60 #[.agg (V b)] w fun e w' => (e = .returned (.bool false)) ∧ Below w.heap.size w w' := by
  have q1 : decide (b.left < 0) = false := decide_eq_false h1
  have q2 : decide (65536 < b.left) = false := decide_eq_false h2
  have q3 : decide (b.run < 0) = false := decide_eq_false h3
  have q4 : decide (b.left < b.run) = false := decide_eq_false h4
  have q5 : decide (b.dig < 0) = true := decide_eq_true h5
  go_enter Try.func60, Try.ntmps60
  have hm := Own.nil w
  go_wp2_with (first
    | (refine wpList_box_o hm rfl rfl rfl ?_; intro w1 g hm1; clear hm)
    | (refine wpList_load_part rfl rfl rfl (hm1.row 0 rfl) (aggB _ hl) (extract_V hl) (fitV hl) ?_)
    | (go_at_call 25; have _t := hm1; refine (CV.out _).mono ?_; rintro e w2 ⟨rfl, hb2⟩; have hm2 := hm1.call hb2; clear hm1)
    | (refine wpList_run rfl (exec_loadcell' (off := 256) rfl rfl (hm2.row 0 rfl) one3 (getV1 hl)) ?_)
    | (refine wpList_run rfl (exec_loadcell' (off := 257) rfl rfl (hm2.row 0 rfl) one3 (getV2 hl)) ?_)
    | (refine wpList_run rfl (exec_loadcell' (off := 258) rfl rfl (hm2.row 0 rfl) one3 (getV3 hl)) ?_)
    | (refine wpList_run rfl (exec_loadcell' (off := 259) rfl rfl (hm2.row 0 rfl) one4 (getV4 hl)) ?_))
  go_ret
  exact ⟨rfl, hm2.below⟩
set_option maxRecDepth 100000 in
set_option maxHeartbeats 2000000 in
theorem dv_6 (b : DS) (w : World) (hl : b.l.length = 256) (CV : Hid (∀ w, Calls Try.prog 25 #[.agg (B b.l)] w fun e w' => (e = .returned (.bool true)) ∧ Below w.heap.size w w')) (h1 : ¬ b.left < 0) (h2 : ¬ 65536 < b.left) (h3 : ¬ b.run < 0) (h4 : ¬ b.left < b.run) (h5 : ¬ b.dig < 0) (h6 : 16 < b.dig) : Calls Try.prog 60 #[.agg (V b)] w fun e w' => (e = .returned (.bool false)) ∧ Below w.heap.size w w' := by
  have q1 : decide (b.left < 0) = false := decide_eq_false h1
  have q2 : decide (65536 < b.left) = false := decide_eq_false h2
  have q3 : decide (b.run < 0) = false := decide_eq_false h3
  have q4 : decide (b.left < b.run) = false := decide_eq_false h4
  have q5 : decide (b.dig < 0) = false := decide_eq_false h5
  have q6 : decide (16 < b.dig) = true := decide_eq_true h6
  go_enter Try.func60, Try.ntmps60
  have hm := Own.nil w
  go_wp2_with (first
    | (refine wpList_box_o hm rfl rfl rfl ?_; intro w1 g hm1; clear hm)
    | (refine wpList_load_part rfl rfl rfl (hm1.row 0 rfl) (aggB _ hl) (extract_V hl) (fitV hl) ?_)
    | (go_at_call 25; have _t := hm1; refine (CV.out _).mono ?_; rintro e w2 ⟨rfl, hb2⟩; have hm2 := hm1.call hb2; clear hm1)
    | (refine wpList_run rfl (exec_loadcell' (off := 256) rfl rfl (hm2.row 0 rfl) one3 (getV1 hl)) ?_)
    | (refine wpList_run rfl (exec_loadcell' (off := 257) rfl rfl (hm2.row 0 rfl) one3 (getV2 hl)) ?_)
    | (refine wpList_run rfl (exec_loadcell' (off := 258) rfl rfl (hm2.row 0 rfl) one3 (getV3 hl)) ?_)
    | (refine wpList_run rfl (exec_loadcell' (off := 259) rfl rfl (hm2.row 0 rfl) one4 (getV4 hl)) ?_))
  go_ret
  exact ⟨rfl, hm2.below⟩
set_option maxRecDepth 100000 in
set_option maxHeartbeats 2000000 in
theorem dv_less (b : DS) (w : World) (hl : b.l.length = 256) (CV : Hid (∀ w, Calls Try.prog 25 #[.agg (B b.l)] w fun e w' => (e = .returned (.bool true)) ∧ Below w.heap.size w w')) (h1 : ¬ b.left < 0) (h2 : ¬ 65536 < b.left) (h3 : ¬ b.run < 0) (h4 : ¬ b.left < b.run) (h5 : ¬ b.dig < 0) (h6 : ¬ 16 < b.dig) (h7 : b.run < 2 ^ b.dig.toNat - 1) : Calls Try.prog 60 #[.agg (V b)] w fun e w' => (e = .returned (.bool false)) ∧ Below w.heap.size w w' := by
  obtain ⟨k, hk⟩ := Int.eq_ofNat_of_zero_le (show 0 ≤ b.dig by omega)
  have hp := pow_le k (by omega)
  have w1 : wrap64 (2 ^ k : Int) = 2 ^ k := w64 (by omega)
  have w2 : wrap64 ((2 : Int) ^ k - 1) = 2 ^ k - 1 := w64 (by omega)
  have w3 : wrap64 (2 * ((2 : Int) ^ k - 1)) = 2 * (2 ^ k - 1) := w64 (by omega)
  have i1 : IntKind.i64.wrap ((2 : Int) ^ k - 1) = 2 ^ k - 1 := IntWalk.i64_in _ (by omega)
  have i2 : IntKind.i64.wrap (2 * ((2 : Int) ^ k - 1)) = 2 * (2 ^ k - 1) := IntWalk.i64_in _ (by omega)
  have q1 : decide (b.left < 0) = false := decide_eq_false h1
  have q2 : decide (65536 < b.left) = false := decide_eq_false h2
  have q3 : decide (b.run < 0) = false := decide_eq_false h3
  have q4 : decide (b.left < b.run) = false := decide_eq_false h4
  have q5 : decide (b.dig < 0) = false := decide_eq_false h5
  have q6 : decide (16 < b.dig) = false := decide_eq_false h6
  rw [hk, Int.toNat_natCast] at h7
  have q7 : decide (b.run < (2 : Int) ^ k - 1) = true := decide_eq_true h7
  have HK := Lib.hid hk
  clear hp
  go_enter Try.func60, Try.ntmps60
  have hm := Own.nil w
  go_wp2_with (first
    | (refine wpList_box_o hm rfl rfl rfl ?_; intro w1 g hm1; clear hm)
    | (refine wpList_load_part rfl rfl rfl (hm1.row 0 rfl) (aggB _ hl) (extract_V hl) (fitV hl) ?_)
    | (go_at_call 25; have _t := hm1; refine (CV.out _).mono ?_; rintro e w2 ⟨rfl, hb2⟩; have hm2 := hm1.call hb2; clear hm1)
    | (refine wpList_run rfl (exec_loadcell' (off := 256) rfl rfl (hm2.row 0 rfl) one3 (getV1 hl)) ?_)
    | (refine wpList_run rfl (exec_loadcell' (off := 257) rfl rfl (hm2.row 0 rfl) one3 (getV2 hl)) ?_)
    | (refine wpList_run rfl (exec_loadcell' (off := 258) rfl rfl (hm2.row 0 rfl) one3 (getV3 hl)) ?_)
    | (refine wpList_run rfl (exec_loadcell' (off := 259) rfl rfl (hm2.row 0 rfl) one4 (getV4 hl)) ?_))
  go_ret
  exact ⟨rfl, hm2.below⟩
set_option maxRecDepth 100000 in
set_option maxHeartbeats 2000000 in
theorem dv_more (b : DS) (w : World) (hl : b.l.length = 256) (CV : Hid (∀ w, Calls Try.prog 25 #[.agg (B b.l)] w fun e w' => (e = .returned (.bool true)) ∧ Below w.heap.size w w')) (h1 : ¬ b.left < 0) (h2 : ¬ 65536 < b.left) (h3 : ¬ b.run < 0) (h4 : ¬ b.left < b.run) (h5 : ¬ b.dig < 0) (h6 : ¬ 16 < b.dig) (h7 : ¬ b.run < 2 ^ b.dig.toNat - 1) (h8 : 2 * (2 ^ b.dig.toNat - 1) < b.run) : Calls Try.prog 60 #[.agg (V b)] w fun e w' => (e = .returned (.bool false)) ∧ Below w.heap.size w w' := by
  obtain ⟨k, hk⟩ := Int.eq_ofNat_of_zero_le (show 0 ≤ b.dig by omega)
  have hp := pow_le k (by omega)
  have w1 : wrap64 (2 ^ k : Int) = 2 ^ k := w64 (by omega)
  have w2 : wrap64 ((2 : Int) ^ k - 1) = 2 ^ k - 1 := w64 (by omega)
  have w3 : wrap64 (2 * ((2 : Int) ^ k - 1)) = 2 * (2 ^ k - 1) := w64 (by omega)
  have i1 : IntKind.i64.wrap ((2 : Int) ^ k - 1) = 2 ^ k - 1 := IntWalk.i64_in _ (by omega)
  have i2 : IntKind.i64.wrap (2 * ((2 : Int) ^ k - 1)) = 2 * (2 ^ k - 1) := IntWalk.i64_in _ (by omega)
  have q1 : decide (b.left < 0) = false := decide_eq_false h1
  have q2 : decide (65536 < b.left) = false := decide_eq_false h2
  have q3 : decide (b.run < 0) = false := decide_eq_false h3
  have q4 : decide (b.left < b.run) = false := decide_eq_false h4
  have q5 : decide (b.dig < 0) = false := decide_eq_false h5
  have q6 : decide (16 < b.dig) = false := decide_eq_false h6
  rw [hk, Int.toNat_natCast] at h7 h8
  have q7 : decide (b.run < (2 : Int) ^ k - 1) = false := decide_eq_false h7
  have q8 : decide (2 * ((2 : Int) ^ k - 1) < b.run) = true := decide_eq_true h8
  clear hp
  go_enter Try.func60, Try.ntmps60
  have hm := Own.nil w
  go_wp2_with (first
    | (refine wpList_box_o hm rfl rfl rfl ?_; intro w1 g hm1; clear hm)
    | (refine wpList_load_part rfl rfl rfl (hm1.row 0 rfl) (aggB _ hl) (extract_V hl) (fitV hl) ?_)
    | (go_at_call 25; have _t := hm1; refine (CV.out _).mono ?_; rintro e w2 ⟨rfl, hb2⟩; have hm2 := hm1.call hb2; clear hm1)
    | (refine wpList_run rfl (exec_loadcell' (off := 256) rfl rfl (hm2.row 0 rfl) one3 (getV1 hl)) ?_)
    | (refine wpList_run rfl (exec_loadcell' (off := 257) rfl rfl (hm2.row 0 rfl) one3 (getV2 hl)) ?_)
    | (refine wpList_run rfl (exec_loadcell' (off := 258) rfl rfl (hm2.row 0 rfl) one3 (getV3 hl)) ?_)
    | (refine wpList_run rfl (exec_loadcell' (off := 259) rfl rfl (hm2.row 0 rfl) one4 (getV4 hl)) ?_))
  go_ret
  exact ⟨rfl, hm2.below⟩
end Go.Proofs.Ytaccjnekonmkoaa
