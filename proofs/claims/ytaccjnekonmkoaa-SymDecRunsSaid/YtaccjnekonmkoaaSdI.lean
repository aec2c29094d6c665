/-
  The walk of the reference winepressref16.Step.
-/
import Derived.Test.YtaccjnekonmkoaaSdE
import Derived.Test.YtaccjnekonmkoaaSdG
namespace Go.Proofs.Ytaccjnekonmkoaa
open Go Go.RowKit

set_option maxRecDepth 100000 in
set_option maxHeartbeats 1000000 in
theorem rst_v (b : DS) (s : Int) (w : World) (hl : b.l.length = 256) (r : Bool) (CV : Hid (∀ w, Calls Try.prog 61 #[.agg (V b)] w fun e w' => (e = .returned (.bool r)) ∧ Below w.heap.size w w')) (h : r = false) : Calls Try.prog 59 #[.agg (V b), .int .i64 s] w (DPost w (b, [], false, 2)) := by
  subst h
  go_enter Try.func59, Try.ntmps59
  have hm := Own.nil w
  go_wp2_with (first
    | (refine wpList_box_o hm rfl rfl rfl ?_; intro w1 g hm1; clear hm)
    | (refine wpList_alloc_o hm1 rfl rfl zero70 ?_; intro w2 g2 hm2; clear hm1)
    | (refine wpList_load_all rfl rfl rfl (hm2.row 1 rfl) (aggV hl) ?_)
    | (go_at_call 61; have _t := hm2; refine (CV.out _).mono ?_; rintro e w3 ⟨rfl, hb3⟩; have hm3 := hm2.call hb3; clear hm2)
    | (refine wpList_run rfl (exec_loadcell' (off := 259) rfl rfl (hm3.row 1 rfl) one4 (getV4 hl)) ?_)
    | (refine wpList_load_all rfl rfl rfl (hm3.row 1 rfl) (aggV hl) ?_)
    | (refine wpList_store_o 0 hm3 rfl rfl rfl rfl rfl (aggV hl) (size_VV hl len_DS0) (V_one _) ?_; intro w4 hm4; simp only [List.set] at hm4; clear hm3))
  refine bodyPost_ret (results_agg4 rfl rfl (hm4.row 0 rfl) (aggV hl)) rfl ?_
  exact ⟨⟨_, rfl, .inl ⟨rfl, rfl⟩⟩, hm4.below⟩
set_option maxRecDepth 100000 in
set_option maxHeartbeats 1000000 in
theorem rst_f (b : DS) (s : Int) (w : World) (hl : b.l.length = 256) (r : Bool) (CV : Hid (∀ w, Calls Try.prog 61 #[.agg (V b)] w fun e w' => (e = .returned (.bool r)) ∧ Below w.heap.size w w')) (h : r = true) (h2 : b.fin = true) : Calls Try.prog 59 #[.agg (V b), .int .i64 s] w (DPost w (b, [], false, 2)) := by
  subst h
  go_enter Try.func59, Try.ntmps59
  have hm := Own.nil w
  go_wp2_with (first
    | (refine wpList_box_o hm rfl rfl rfl ?_; intro w1 g hm1; clear hm)
    | (refine wpList_alloc_o hm1 rfl rfl zero70 ?_; intro w2 g2 hm2; clear hm1)
    | (refine wpList_load_all rfl rfl rfl (hm2.row 1 rfl) (aggV hl) ?_)
    | (go_at_call 61; have _t := hm2; refine (CV.out _).mono ?_; rintro e w3 ⟨rfl, hb3⟩; have hm3 := hm2.call hb3; clear hm2)
    | (refine wpList_run rfl (exec_loadcell' (off := 259) rfl rfl (hm3.row 1 rfl) one4 (getV4 hl)) ?_)
    | (refine wpList_load_all rfl rfl rfl (hm3.row 1 rfl) (aggV hl) ?_)
    | (refine wpList_store_o 0 hm3 rfl rfl rfl rfl rfl (aggV hl) (size_VV hl len_DS0) (V_one _) ?_; intro w4 hm4; simp only [List.set] at hm4; clear hm3))
  refine bodyPost_ret (results_agg4 rfl rfl (hm4.row 0 rfl) (aggV hl)) rfl ?_
  exact ⟨⟨_, rfl, .inl ⟨rfl, rfl⟩⟩, hm4.below⟩
set_option maxRecDepth 100000 in
set_option maxHeartbeats 1000000 in
theorem rst_l (b : DS) (s : Int) (w : World) (hl : b.l.length = 256) (r : Bool) (CV : Hid (∀ w, Calls Try.prog 61 #[.agg (V b)] w fun e w' => (e = .returned (.bool r)) ∧ Below w.heap.size w w')) (h : r = true) (h2 : b.fin = false) (h3 : s < 0) : Calls Try.prog 59 #[.agg (V b), .int .i64 s] w (DPost w (b, [], false, 2)) := by
  subst h
  have q3 : decide (s < 0) = true := decide_eq_true h3
  go_enter Try.func59, Try.ntmps59
  have hm := Own.nil w
  go_wp2_with (first
    | (refine wpList_box_o hm rfl rfl rfl ?_; intro w1 g hm1; clear hm)
    | (refine wpList_alloc_o hm1 rfl rfl zero70 ?_; intro w2 g2 hm2; clear hm1)
    | (refine wpList_load_all rfl rfl rfl (hm2.row 1 rfl) (aggV hl) ?_)
    | (go_at_call 61; have _t := hm2; refine (CV.out _).mono ?_; rintro e w3 ⟨rfl, hb3⟩; have hm3 := hm2.call hb3; clear hm2)
    | (refine wpList_run rfl (exec_loadcell' (off := 259) rfl rfl (hm3.row 1 rfl) one4 (getV4 hl)) ?_)
    | (refine wpList_load_all rfl rfl rfl (hm3.row 1 rfl) (aggV hl) ?_)
    | (refine wpList_store_o 0 hm3 rfl rfl rfl rfl rfl (aggV hl) (size_VV hl len_DS0) (V_one _) ?_; intro w4 hm4; simp only [List.set] at hm4; clear hm3))
  refine bodyPost_ret (results_agg4 rfl rfl (hm4.row 0 rfl) (aggV hl)) rfl ?_
  exact ⟨⟨_, rfl, .inl ⟨rfl, rfl⟩⟩, hm4.below⟩
set_option maxRecDepth 100000 in
set_option maxHeartbeats 1000000 in
theorem rst_h (b : DS) (s : Int) (w : World) (hl : b.l.length = 256) (r : Bool) (CV : Hid (∀ w, Calls Try.prog 61 #[.agg (V b)] w fun e w' => (e = .returned (.bool r)) ∧ Below w.heap.size w w')) (h : r = true) (h2 : b.fin = false) (h3 : ¬ s < 0) (h4 : 257 < s) : Calls Try.prog 59 #[.agg (V b), .int .i64 s] w (DPost w (b, [], false, 2)) := by
  subst h
  have q3 : decide (s < 0) = false := decide_eq_false h3
  have q4 : decide (257 < s) = true := decide_eq_true h4
  go_enter Try.func59, Try.ntmps59
  have hm := Own.nil w
  go_wp2_with (first
    | (refine wpList_box_o hm rfl rfl rfl ?_; intro w1 g hm1; clear hm)
    | (refine wpList_alloc_o hm1 rfl rfl zero70 ?_; intro w2 g2 hm2; clear hm1)
    | (refine wpList_load_all rfl rfl rfl (hm2.row 1 rfl) (aggV hl) ?_)
    | (go_at_call 61; have _t := hm2; refine (CV.out _).mono ?_; rintro e w3 ⟨rfl, hb3⟩; have hm3 := hm2.call hb3; clear hm2)
    | (refine wpList_run rfl (exec_loadcell' (off := 259) rfl rfl (hm3.row 1 rfl) one4 (getV4 hl)) ?_)
    | (refine wpList_load_all rfl rfl rfl (hm3.row 1 rfl) (aggV hl) ?_)
    | (refine wpList_store_o 0 hm3 rfl rfl rfl rfl rfl (aggV hl) (size_VV hl len_DS0) (V_one _) ?_; intro w4 hm4; simp only [List.set] at hm4; clear hm3))
  refine bodyPost_ret (results_agg4 rfl rfl (hm4.row 0 rfl) (aggV hl)) rfl ?_
  exact ⟨⟨_, rfl, .inl ⟨rfl, rfl⟩⟩, hm4.below⟩
theorem src_in {w : World} {k : IntKind} {v : Value} {l : List Int} (h : Src w v (vs k l)) : In k w v l := by
  rcases h with ⟨rfl, h0⟩ | ⟨ad, c, rfl, hc⟩
  · have : l = [] := by simpa [vs] using h0
    subst this
    exact In.nil k w
  · refine ⟨some ad, c, by rw [length_vs], fun i hi => ⟨ad, rfl, hc i _ ?_⟩⟩
    rw [gi_eq l i hi]; simp [vs, hi]
theorem digit_num {b : DS} (hk : dOk b = true) {s : Int} (hs : s = 0 ∨ s = 1) : numO (dg b.run.toNat ++ [s]) = (addV b.run b.dig s, 0) := by
  obtain ⟨a1, a2, a3, a4, a5, a6, a7⟩ := dOk_nums hk
  have hD : Dig (dg b.run.toNat ++ [s]) := fun d hd => by
    rcases List.mem_append.1 hd with h | h
    · exact dig_dg _ _ (Nat.le_refl _) d h
    · rw [List.mem_singleton.1 h]; exact hs
  have hv : val 0 (dg b.run.toNat ++ [s]) = addS b.run b.dig s := by
    rw [val_snoc, val_dg _ _ (Nat.le_refl _), addS, Nat.zero_add, ← a7, Int.toNat_natCast]
    have : ((b.run.toNat : Nat) : Int) = b.run := by omega
    rw [this, Int.pow_zero, Int.mul_one]
  have hp16 : (2 : Int) ^ b.dig.toNat ≤ 65536 := by
    have h : 2 ^ b.dig.toNat ≤ 65536 := Nat.pow_le_pow_right (n := 2) (by omega) (show b.dig.toNat ≤ 16 by omega)
    have e : ((2 ^ b.dig.toNat : Nat) : Int) = (2 : Int) ^ b.dig.toNat := by push_cast; rfl
    rw [← e]; exact Int.ofNat_le.2 h
  have hS : addS b.run b.dig s ≤ 2147483647 := by
    rw [addS]
    rcases hs with rfl | rfl <;> omega
  rw [numO, numF_ok _ 0 0 (Int.le_refl _) hD (by rw [List.length_append, List.length_singleton]; omega) (by rw [hv]; omega), hv, addV, if_pos ⟨⟨a3, by omega, a5, by omega, hs⟩, hS⟩, Int.zero_add]
set_option maxRecDepth 100000 in
set_option maxHeartbeats 4000000 in
theorem rst_dig_bad (b : DS) (s : Int) (w : World) (hl : b.l.length = 256) (CV : Hid (∀ w, Calls Try.prog 61 #[.agg (V b)] w fun e w' => (e = .returned (.bool true)) ∧ Below w.heap.size w w')) (h2 : b.fin = false) (h3 : ¬ s < 0) (h4 : ¬ 257 < s) (hs : s = 0 ∨ s = 1) (D : List Int) (hD : D.length ≤ 16) (CD : Hid (∀ w, Calls Try.prog 35 #[.int .i64 b.run] w (ListPost w D 0))) (N : Int) (CN : Hid (∀ w v, In .i64 w v (D ++ [s]) → Calls Try.prog 37 #[v] w (PairPost w N 0))) (hd0 : 0 ≤ b.dig) (hd1 : b.dig ≤ 100) (hN : ¬ N ≤ b.left) : Calls Try.prog 59 #[.agg (V b), .int .i64 s] w (DPost w (b, [], false, 160)) := by
  have q3 : decide (s < 0) = false := decide_eq_false h3
  have q4 : decide (257 < s) = false := decide_eq_false h4
  have q6 : decide (b.left < N) = true := decide_eq_true (by omega)
  have q5 : decide (s < 2) = true := decide_eq_true (by omega)
  have hw : IntKind.i64.wrap (b.dig + 1) = b.dig + 1 := IntWalk.i64_in _ (by omega)
  have l1 : ({ b with run := N } : DS).l.length = 256 := hl
  have l2 : ({ b with run := N, dig := b.dig + 1 } : DS).l.length = 256 := hl
  obtain ⟨i3, hE⟩ := el39
  have HE := Lib.hid hE
  have HV : Hid (∀ wz v, Src wz v (vs .i64 D ++ [.int .i64 s]) → In .i64 wz v (D ++ [s])) := Lib.hid (fun wz v h => src_in (by rw [vs_append]; exact h))
  clear hE
  go_enter Try.func59, Try.ntmps59
  have hm := Own.nil w
  go_wp2_with (first
    | (refine wpList_box_o hm rfl rfl rfl ?_; intro w1 g hm1; clear hm)
    | (refine wpList_alloc_o hm1 rfl rfl zero70 ?_; intro w2 g2 hm2; clear hm1)
    | (refine wpList_load_all rfl rfl rfl (hm2.row 1 rfl) (aggV hl) ?_)
    | (go_at_call 61; have _t := hm2; refine (CV.out _).mono ?_; rintro e w3 ⟨rfl, hb3⟩; have hm3 := hm2.call hb3; clear hm2)
    | (refine wpList_run rfl (exec_loadcell' (off := 259) rfl rfl (hm3.row 1 rfl) one4 (getV4 hl)) ?_)
    | (refine wpList_load_all rfl rfl rfl (hm3.row 1 rfl) (aggV hl) ?_)
    | (refine wpList_alloc_o hm3 rfl rfl zero70 ?_; intro w4 g4 hm4; clear hm3)
    | (refine wpList_store_o 0 hm4 rfl rfl rfl rfl rfl (aggV hl) (size_VV hl len_DS0) (V_one _) ?_; intro w5 hm5; simp only [List.set] at hm5; clear hm4)
    | (refine wpList_run rfl (exec_loadcell' (off := 257) rfl rfl (hm5.row 2 rfl) one3 (getV2 hl)) ?_)
    | (go_at_call 35; have _t := hm5; refine (CD.out _).mono ?_; rintro e w6 ⟨⟨r6, rfl, hq6⟩, hb6⟩; obtain ⟨a6, c6, rfl⟩ := owns_shape0 hq6; have hm6 := hm5.callSl hb6 (by rw [length_vs]; exact hq6); clear hm5 hq6)
    | (refine wpList_build1_o (v := .int .i64 s) hm6 rfl rfl HE.out rfl rfl ?_; intro w7 g7 hm7; clear hm6)
    | (refine wpList_append_o 0 hm7 rfl rfl HE.out rfl rfl rfl (Src.one (hm7.row 0 rfl)) (one_list _ rfl) (by simp only [length_vs, List.length_cons, List.length_nil]; omega) (by simp only [length_vs, List.length_cons, List.length_nil]; omega) ?_; intro ad8 c8 w8 hm8; simp only [List.set] at hm8; clear hm7)
    | (go_at_call 37; have _t := hm8; refine (CN.out _ _ (HV.out _ _ (Src.of_owned (hm8.get 0 rfl)))).mono ?_; rintro e w9 ⟨rfl, hb9⟩; have hm9 := hm8.call hb9; clear hm8)
    | (refine wpList_run rfl (exec_loadcell' (off := 256) rfl rfl (hm9.row 3 rfl) one3 (getV1 hl)) ?_)
    | (refine wpList_load_all rfl rfl rfl (hm9.row 3 rfl) (aggV hl) ?_)
    | (refine wpList_store_o 2 hm9 rfl rfl rfl rfl rfl (aggV hl) (size_VV hl len_DS0) (V_one _) ?_; intro w10 hm10; simp only [List.set] at hm10; clear hm9))
  refine bodyPost_ret (results_agg4 rfl rfl (hm10.row 2 rfl) (aggV hl)) rfl ?_
  exact ⟨⟨_, rfl, .inl ⟨rfl, rfl⟩⟩, hm10.below⟩
set_option maxRecDepth 100000 in
set_option maxHeartbeats 4000000 in
theorem rst_dig_good (b : DS) (s : Int) (w : World) (hl : b.l.length = 256) (CV : Hid (∀ w, Calls Try.prog 61 #[.agg (V b)] w fun e w' => (e = .returned (.bool true)) ∧ Below w.heap.size w w')) (h2 : b.fin = false) (h3 : ¬ s < 0) (h4 : ¬ 257 < s) (hs : s = 0 ∨ s = 1) (D : List Int) (hD : D.length ≤ 16) (CD : Hid (∀ w, Calls Try.prog 35 #[.int .i64 b.run] w (ListPost w D 0))) (N : Int) (CN : Hid (∀ w v, In .i64 w v (D ++ [s]) → Calls Try.prog 37 #[v] w (PairPost w N 0))) (hd0 : 0 ≤ b.dig) (hd1 : b.dig ≤ 100) (hN : N ≤ b.left) : Calls Try.prog 59 #[.agg (V b), .int .i64 s] w (DPost w ({ b with run := N, dig := b.dig + 1 }, [], false, 0)) := by
  have q3 : decide (s < 0) = false := decide_eq_false h3
  have q4 : decide (257 < s) = false := decide_eq_false h4
  have q6 : decide (b.left < N) = false := decide_eq_false (by omega)
  have q5 : decide (s < 2) = true := decide_eq_true (by omega)
  have hw : IntKind.i64.wrap (b.dig + 1) = b.dig + 1 := IntWalk.i64_in _ (by omega)
  have l1 : ({ b with run := N } : DS).l.length = 256 := hl
  have l2 : ({ b with run := N, dig := b.dig + 1 } : DS).l.length = 256 := hl
  obtain ⟨i3, hE⟩ := el39
  have HE := Lib.hid hE
  have HV : Hid (∀ wz v, Src wz v (vs .i64 D ++ [.int .i64 s]) → In .i64 wz v (D ++ [s])) := Lib.hid (fun wz v h => src_in (by rw [vs_append]; exact h))
  clear hE
  go_enter Try.func59, Try.ntmps59
  have hm := Own.nil w
  go_wp2_with (first
    | (refine wpList_box_o hm rfl rfl rfl ?_; intro w1 g hm1; clear hm)
    | (refine wpList_alloc_o hm1 rfl rfl zero70 ?_; intro w2 g2 hm2; clear hm1)
    | (refine wpList_load_all rfl rfl rfl (hm2.row 1 rfl) (aggV hl) ?_)
    | (go_at_call 61; have _t := hm2; refine (CV.out _).mono ?_; rintro e w3 ⟨rfl, hb3⟩; have hm3 := hm2.call hb3; clear hm2)
    | (refine wpList_run rfl (exec_loadcell' (off := 259) rfl rfl (hm3.row 1 rfl) one4 (getV4 hl)) ?_)
    | (refine wpList_load_all rfl rfl rfl (hm3.row 1 rfl) (aggV hl) ?_)
    | (refine wpList_alloc_o hm3 rfl rfl zero70 ?_; intro w4 g4 hm4; clear hm3)
    | (refine wpList_store_o 0 hm4 rfl rfl rfl rfl rfl (aggV hl) (size_VV hl len_DS0) (V_one _) ?_; intro w5 hm5; simp only [List.set] at hm5; clear hm4)
    | (refine wpList_run rfl (exec_loadcell' (off := 257) rfl rfl (hm5.row 2 rfl) one3 (getV2 hl)) ?_)
    | (go_at_call 35; have _t := hm5; refine (CD.out _).mono ?_; rintro e w6 ⟨⟨r6, rfl, hq6⟩, hb6⟩; obtain ⟨a6, c6, rfl⟩ := owns_shape0 hq6; have hm6 := hm5.callSl hb6 (by rw [length_vs]; exact hq6); clear hm5 hq6)
    | (refine wpList_build1_o (v := .int .i64 s) hm6 rfl rfl HE.out rfl rfl ?_; intro w7 g7 hm7; clear hm6)
    | (refine wpList_append_o 0 hm7 rfl rfl HE.out rfl rfl rfl (Src.one (hm7.row 0 rfl)) (one_list _ rfl) (by simp only [length_vs, List.length_cons, List.length_nil]; omega) (by simp only [length_vs, List.length_cons, List.length_nil]; omega) ?_; intro ad8 c8 w8 hm8; simp only [List.set] at hm8; clear hm7)
    | (go_at_call 37; have _t := hm8; refine (CN.out _ _ (HV.out _ _ (Src.of_owned (hm8.get 0 rfl)))).mono ?_; rintro e w9 ⟨rfl, hb9⟩; have hm9 := hm8.call hb9; clear hm8)
    | (refine wpList_run rfl (exec_loadcell' (off := 256) rfl rfl (hm9.row 3 rfl) one3 (getV1 hl)) ?_)
    | (refine wpList_storecell_o (off := 257) (v := .int .i64 N) 1 hm9 rfl rfl rfl rfl rfl one3 (by rw [size_V hl]; omega) rfl rfl (setV2 hl N) ?_; intro w10 hm10; simp only [List.set] at hm10; clear hm9)
    | (refine wpList_run rfl (exec_loadcell' (off := 258) rfl rfl (hm10.row 1 rfl) one3 (getV3 (b := { b with run := N }) l1)) ?_)
    | (refine wpList_storecell_o (off := 258) (v := .int .i64 (b.dig + 1)) 1 hm10 rfl rfl rfl rfl rfl one3 (by rw [size_V (b := { b with run := N }) l1]; omega) rfl rfl (setV3 (b := { b with run := N }) l1 (b.dig + 1)) ?_; intro w11 hm11; simp only [List.set] at hm11; clear hm10)
    | (refine wpList_load_all rfl rfl rfl (hm11.row 1 rfl) (aggV (b := { b with run := N, dig := b.dig + 1 }) l2) ?_)
    | (refine wpList_store_o 2 hm11 rfl rfl rfl rfl rfl (aggV (b := { b with run := N, dig := b.dig + 1 }) l2) (size_VV (b := { b with run := N, dig := b.dig + 1 }) l2 len_DS0) (V_one _) ?_; intro w12 hm12; simp only [List.set] at hm12; clear hm11))
  refine bodyPost_ret (results_agg4 rfl rfl (hm12.row 2 rfl) (aggV (b := { b with run := N, dig := b.dig + 1 }) l2)) rfl ?_
  exact ⟨⟨_, rfl, .inl ⟨rfl, rfl⟩⟩, hm12.below⟩
set_option maxRecDepth 100000 in
set_option maxHeartbeats 4000000 in
theorem rst_eq_bad1 (b : DS) (s : Int) (w : World) (hl : b.l.length = 256) (CV : Hid (∀ w, Calls Try.prog 61 #[.agg (V b)] w fun e w' => (e = .returned (.bool true)) ∧ Below w.heap.size w w')) (h2 : b.fin = false) (h3 : ¬ s < 0) (h4 : ¬ 257 < s) (hs : ¬ s < 2) (h5 : s = 257) (h6 : ¬ b.run = b.left) : Calls Try.prog 59 #[.agg (V b), .int .i64 s] w (DPost w (b, [], false, 160)) := by
  have q3 : decide (s < 0) = false := decide_eq_false h3
  have q4 : decide (257 < s) = false := decide_eq_false h4
  have q5 : decide (s < 2) = false := decide_eq_false hs
  subst h5
  have q6 : (b.run == b.left) = false := by simpa using h6
  have q7 : decide (b.run = b.left) = false := decide_eq_false h6
  go_enter Try.func59, Try.ntmps59
  have hm := Own.nil w
  go_wp2_with (first
    | (refine wpList_box_o hm rfl rfl rfl ?_; intro w1 g hm1; clear hm)
    | (refine wpList_alloc_o hm1 rfl rfl zero70 ?_; intro w2 g2 hm2; clear hm1)
    | (refine wpList_load_all rfl rfl rfl (hm2.row 1 rfl) (aggV hl) ?_)
    | (go_at_call 61; have _t := hm2; refine (CV.out _).mono ?_; rintro e w3 ⟨rfl, hb3⟩; have hm3 := hm2.call hb3; clear hm2)
    | (refine wpList_run rfl (exec_loadcell' (off := 259) rfl rfl (hm3.row 1 rfl) one4 (getV4 hl)) ?_)
    | (refine wpList_load_all rfl rfl rfl (hm3.row 1 rfl) (aggV hl) ?_)
    | (refine wpList_alloc_o hm3 rfl rfl zero70 ?_; intro w4 g4 hm4; clear hm3)
    | (refine wpList_store_o 0 hm4 rfl rfl rfl rfl rfl (aggV hl) (size_VV hl len_DS0) (V_one _) ?_; intro w5 hm5; simp only [List.set] at hm5; clear hm4)
    | (refine wpList_run rfl (exec_loadcell' (off := 257) rfl rfl (hm5.row 2 rfl) one3 (getV2 hl)) ?_)
    | (refine wpList_run rfl (exec_loadcell' (off := 256) rfl rfl (hm5.row 2 rfl) one3 (getV1 hl)) ?_)
    | (refine wpList_load_all rfl rfl rfl (hm5.row 2 rfl) (aggV hl) ?_)
    | (refine wpList_store_o 1 hm5 rfl rfl rfl rfl rfl (aggV hl) (size_VV hl len_DS0) (V_one _) ?_; intro w6 hm6; simp only [List.set] at hm6; clear hm5))
  refine bodyPost_ret (results_agg4 rfl rfl (hm6.row 1 rfl) (aggV hl)) rfl ?_
  exact ⟨⟨_, rfl, .inl ⟨rfl, rfl⟩⟩, hm6.below⟩
set_option maxRecDepth 100000 in
set_option maxHeartbeats 4000000 in
theorem rst_eq_bad2 (b : DS) (s : Int) (w : World) (hl : b.l.length = 256) (CV : Hid (∀ w, Calls Try.prog 61 #[.agg (V b)] w fun e w' => (e = .returned (.bool true)) ∧ Below w.heap.size w w')) (h2 : b.fin = false) (h3 : ¬ s < 0) (h4 : ¬ 257 < s) (hs : ¬ s < 2) (h5 : ¬ s = 257) (h6 : b.run = b.left) : Calls Try.prog 59 #[.agg (V b), .int .i64 s] w (DPost w (b, [], false, 160)) := by
  have q3 : decide (s < 0) = false := decide_eq_false h3
  have q4 : decide (257 < s) = false := decide_eq_false h4
  have q5 : decide (s < 2) = false := decide_eq_false hs
  have q6 : (b.run == b.left) = true := by simpa using h6
  have q7 : decide (b.run = b.left) = true := decide_eq_true h6
  have q8 : (s == 257) = false := by simpa using h5
  have q9 : decide (s = 257) = false := decide_eq_false h5
  have H6 := Lib.hid h6
  clear h6
  go_enter Try.func59, Try.ntmps59
  have hm := Own.nil w
  go_wp2_with (first
    | (refine wpList_box_o hm rfl rfl rfl ?_; intro w1 g hm1; clear hm)
    | (refine wpList_alloc_o hm1 rfl rfl zero70 ?_; intro w2 g2 hm2; clear hm1)
    | (refine wpList_load_all rfl rfl rfl (hm2.row 1 rfl) (aggV hl) ?_)
    | (go_at_call 61; have _t := hm2; refine (CV.out _).mono ?_; rintro e w3 ⟨rfl, hb3⟩; have hm3 := hm2.call hb3; clear hm2)
    | (refine wpList_run rfl (exec_loadcell' (off := 259) rfl rfl (hm3.row 1 rfl) one4 (getV4 hl)) ?_)
    | (refine wpList_load_all rfl rfl rfl (hm3.row 1 rfl) (aggV hl) ?_)
    | (refine wpList_alloc_o hm3 rfl rfl zero70 ?_; intro w4 g4 hm4; clear hm3)
    | (refine wpList_store_o 0 hm4 rfl rfl rfl rfl rfl (aggV hl) (size_VV hl len_DS0) (V_one _) ?_; intro w5 hm5; simp only [List.set] at hm5; clear hm4)
    | (refine wpList_run rfl (exec_loadcell' (off := 257) rfl rfl (hm5.row 2 rfl) one3 (getV2 hl)) ?_)
    | (refine wpList_run rfl (exec_loadcell' (off := 256) rfl rfl (hm5.row 2 rfl) one3 (getV1 hl)) ?_)
    | (refine wpList_load_all rfl rfl rfl (hm5.row 2 rfl) (aggV hl) ?_)
    | (refine wpList_store_o 1 hm5 rfl rfl rfl rfl rfl (aggV hl) (size_VV hl len_DS0) (V_one _) ?_; intro w6 hm6; simp only [List.set] at hm6; clear hm5))
  refine bodyPost_ret (results_agg4 rfl rfl (hm6.row 1 rfl) (aggV hl)) rfl ?_
  exact ⟨⟨_, rfl, .inl ⟨rfl, rfl⟩⟩, hm6.below⟩
set_option maxRecDepth 100000 in
set_option maxHeartbeats 8000000 in
theorem rst_eob (b : DS) (s : Int) (hse : s = 257) (w : World) (hl : b.l.length = 256) (CV : Hid (∀ w, Calls Try.prog 61 #[.agg (V b)] w fun e w' => (e = .returned (.bool true)) ∧ Below w.heap.size w w')) (h2 : b.fin = false) (h3 : ¬ s < 0) (h4 : ¬ 257 < s) (hs : ¬ s < 2) (h0 : 0 ≤ b.run) (hr : b.run ≤ b.left) (h9 : b.left ≤ 65536) (h6 : b.run = b.left) : Calls Try.prog 59 #[.agg (V b), .int .i64 s] w (DPost w (⟨b.l, 0, 0, 0, true⟩, b.rep, true, 0)) := by
  have q3 : decide (s < 0) = false := decide_eq_false h3
  have q4 : decide (257 < s) = false := decide_eq_false h4
  have q5 : decide (s < 2) = false := decide_eq_false hs
  subst hse
  have q6 : (b.run == b.left) = true := by simpa using h6
  have q7 : decide (b.run = b.left) = true := decide_eq_true h6
  have H6 := Lib.hid h6
  clear h6
  obtain ⟨K, hK⟩ := Int.eq_ofNat_of_zero_le h0
  have hrep : b.rep = List.replicate K (gi b.l 0) := by rw [DS.rep, hK, Int.toNat_natCast]
  have HREP := Lib.hid hrep
  have HK := Lib.hid hK
  have hK2 : K ≤ 65536 := by omega
  have HL := Lib.hid (show b.run ≤ b.left ∧ b.left ≤ 65536 from ⟨hr, h9⟩)
  have G2 : (V b)[257]? = some (.int .i64 K) := by rw [getV2 hl, hK]
  obtain ⟨i5, hE⟩ := el24
  have HE := Lib.hid hE
  clear hE hrep hK
  go_enter Try.func59, Try.ntmps59
  have hm := Own.nil w
  go_wp2_with (first
    | (refine wpList_box_o hm rfl rfl rfl ?_; intro w1 g hm1; clear hm)
    | (refine wpList_alloc_o hm1 rfl rfl zero70 ?_; intro w2 g2 hm2; clear hm1)
    | (refine wpList_load_all rfl rfl rfl (hm2.row 1 rfl) (aggV hl) ?_)
    | (go_at_call 61; have _t := hm2; refine (CV.out _).mono ?_; rintro e w3 ⟨rfl, hb3⟩; have hm3 := hm2.call hb3; clear hm2)
    | (refine wpList_run rfl (exec_loadcell' (off := 259) rfl rfl (hm3.row 1 rfl) one4 (getV4 hl)) ?_)
    | (refine wpList_load_all rfl rfl rfl (hm3.row 1 rfl) (aggV hl) ?_)
    | (refine wpList_alloc_o hm3 rfl rfl zero70 ?_; intro w4 g4 hm4; clear hm3)
    | (refine wpList_store_o 0 hm4 rfl rfl rfl rfl rfl (aggV hl) (size_VV hl len_DS0) (V_one _) ?_; intro w5 hm5; simp only [List.set] at hm5; clear hm4)
    | (refine wpList_run rfl (exec_loadcell' (off := 257) rfl rfl (hm5.row 2 rfl) one3 (getV2 hl)) ?_)
    | (refine wpList_run rfl (exec_loadcell' (off := 256) rfl rfl (hm5.row 2 rfl) one3 (getV1 hl)) ?_))
  have hm6 := hm5.addNil 5
  clear hm5
  go_loopw [13, 14] (fun o u wr => ∃ (i : Nat) (ao : Option Addr) (co : Nat), i ≤ K ∧ u = .int .i64 i ∧ o = .slice ao i co ∧ Own w wr [(g4, V b), (g2, V DS0), (g, V b)] [(.slice ao i co, 5, vs .u8 (List.replicate i (gi b.l 0)))]) (fun _ u _ => K - (intOf u).toNat)
  case atStart => exact ⟨0, none, 0, by omega, rfl, rfl, hm6⟩
  case round =>
    obtain ⟨i, ao, co, hi, rfl, rfl, hmr⟩ := hrel
    clear hm6
    have hlen : (vs .u8 (List.replicate i (gi b.l 0))).length = i := by rw [length_vs, List.length_replicate]
    by_cases hlt : i < K
    · have hz : ((i : Int) < (K : Int)) := by omega
      have HLEN := Lib.hid hlen
      go_wp2_with (first
        | (refine wpList_run rfl (exec_loadcell' (off := 257) rfl rfl (hmr.row 2 rfl) one3 G2) ?_)
        | (refine wpList_run rfl (exec_loadcell' (off := 0) rfl rfl (hmr.row 2 rfl) one5 (getV0 hl 0 (by omega))) ?_)
        | (refine wpList_build1_o (v := .int .u8 (gi b.l 0)) hmr rfl rfl HE.out rfl rfl ?_; intro w7 g7 hm7; clear hmr)
        | (refine wpList_append_o 0 hm7 rfl rfl HE.out rfl rfl rfl (Src.one (hm7.row 0 rfl)) (one_list _ rfl) (by simp only [length_vs, List.length_replicate, List.length_cons, List.length_nil]; omega) (by simp only [length_vs, List.length_replicate, List.length_cons, List.length_nil]; omega) ?_; intro ad8 c8 w8 hm8; simp only [List.set] at hm8; clear hm7))
      go_roundw
      case rel =>
        have hs := hm8.dropRow
        rw [show vs .u8 (List.replicate i (gi b.l 0)) ++ [Value.int .u8 (gi b.l 0)] = vs .u8 (List.replicate (i + 1) (gi b.l 0)) by rw [List.replicate_succ', vs_append]; rfl, HLEN.out] at hs
        exact ⟨i + 1, ad8, c8, by omega, by go_num, rfl, hs⟩
      case measure => simp [intOf]; omega
    · obtain rfl : K = i := by omega
      go_wp2_with (first
        | (refine wpList_run rfl (exec_loadcell' (off := 257) rfl rfl (hmr.row 2 rfl) one3 G2) ?_)
        | (refine wpList_storecell_o (off := 256) (v := .int .i64 0) 0 hmr rfl rfl rfl rfl rfl one3 (by rw [size_V hl]; omega) rfl rfl (setV1 hl 0) ?_; intro w7 hm7; simp only [List.set] at hm7; clear hmr)
        | (refine wpList_storecell_o (off := 257) (v := .int .i64 0) 0 hm7 rfl rfl rfl rfl rfl one3 (by rw [size_V (b := { b with left := 0 }) hl]; omega) rfl rfl (setV2 (b := { b with left := 0 }) hl 0) ?_; intro w8 hm8; simp only [List.set] at hm8; clear hm7)
        | (refine wpList_storecell_o (off := 258) (v := .int .i64 0) 0 hm8 rfl rfl rfl rfl rfl one3 (by rw [size_V (b := { b with left := 0, run := 0 }) hl]; omega) rfl rfl (setV3 (b := { b with left := 0, run := 0 }) hl 0) ?_; intro w9 hm9; simp only [List.set] at hm9; clear hm8)
        | (refine wpList_storecell_o (off := 259) (v := .bool true) 0 hm9 rfl rfl rfl rfl rfl one4 (by rw [size_V (b := { b with left := 0, run := 0, dig := 0 }) hl]; omega) rfl rfl (setV4 (b := { b with left := 0, run := 0, dig := 0 }) hl true) ?_; intro w10 hm10; simp only [List.set] at hm10; clear hm9)
        | (refine wpList_load_all rfl rfl rfl (hm10.row 0 rfl) (aggV (b := ⟨b.l, 0, 0, 0, true⟩) hl) ?_)
        | (refine wpList_store_o 1 hm10 rfl rfl rfl rfl rfl (aggV (b := ⟨b.l, 0, 0, 0, true⟩) hl) (size_VV (b := ⟨b.l, 0, 0, 0, true⟩) hl len_DS0) (V_one _) ?_; intro w11 hm11; simp only [List.set] at hm11; clear hm10))
      refine bodyPost_ret (results_agg4 rfl rfl (hm11.row 1 rfl) (aggV (b := ⟨b.l, 0, 0, 0, true⟩) hl)) rfl ?_
      rw [HREP.out]
      have hs := hm11.get 0 rfl
      rw [hlen] at hs
      exact ⟨⟨_, rfl, SrcF.of_owned (by rw [hlen]; exact hs)⟩, hm11.below⟩
set_option maxRecDepth 100000 in
set_option maxHeartbeats 8000000 in
theorem rst_more (b : DS) (s : Int) (w : World) (hl : b.l.length = 256) (CV : Hid (∀ w, Calls Try.prog 61 #[.agg (V b)] w fun e w' => (e = .returned (.bool true)) ∧ Below w.heap.size w w')) (h2 : b.fin = false) (h3 : ¬ s < 0) (h4 : ¬ 257 < s) (hs : ¬ s < 2) (h0 : 0 ≤ b.run) (hr : b.run ≤ b.left) (h9 : b.left ≤ 65536) (h5 : ¬ s = 257) (h6 : ¬ b.run = b.left) : Calls Try.prog 59 #[.agg (V b), .int .i64 s] w (DPost w (⟨takeL b.l (s - 1), b.left - (b.run + 1), 0, 0, false⟩, b.rep ++ [takeC b.l (s - 1)], false, 0)) := by
  have q3 : decide (s < 0) = false := decide_eq_false h3
  have q4 : decide (257 < s) = false := decide_eq_false h4
  have q5 : decide (s < 2) = false := decide_eq_false hs
  have q6 : (b.run == b.left) = false := by simpa using h6
  have q7 : decide (b.run = b.left) = false := decide_eq_false h6
  have q8 : (s == 257) = false := by simpa using h5
  have q9 : decide (s = 257) = false := decide_eq_false h5
  have H6 := Lib.hid h6
  clear h6
  obtain ⟨K, hK⟩ := Int.eq_ofNat_of_zero_le h0
  have hrep : b.rep = List.replicate K (gi b.l 0) := by rw [DS.rep, hK, Int.toNat_natCast]
  have HREP := Lib.hid hrep
  have HK := Lib.hid hK
  have hK2 : K ≤ 65536 := by omega
  have HL := Lib.hid (show b.run ≤ b.left ∧ b.left ≤ 65536 from ⟨hr, h9⟩)
  have G2 : (V b)[257]? = some (.int .i64 K) := by rw [getV2 hl, hK]
  obtain ⟨i5, hE⟩ := el24
  have HE := Lib.hid hE
  clear hE hrep hK
  go_enter Try.func59, Try.ntmps59
  have hm := Own.nil w
  go_wp2_with (first
    | (refine wpList_box_o hm rfl rfl rfl ?_; intro w1 g hm1; clear hm)
    | (refine wpList_alloc_o hm1 rfl rfl zero70 ?_; intro w2 g2 hm2; clear hm1)
    | (refine wpList_load_all rfl rfl rfl (hm2.row 1 rfl) (aggV hl) ?_)
    | (go_at_call 61; have _t := hm2; refine (CV.out _).mono ?_; rintro e w3 ⟨rfl, hb3⟩; have hm3 := hm2.call hb3; clear hm2)
    | (refine wpList_run rfl (exec_loadcell' (off := 259) rfl rfl (hm3.row 1 rfl) one4 (getV4 hl)) ?_)
    | (refine wpList_load_all rfl rfl rfl (hm3.row 1 rfl) (aggV hl) ?_)
    | (refine wpList_alloc_o hm3 rfl rfl zero70 ?_; intro w4 g4 hm4; clear hm3)
    | (refine wpList_store_o 0 hm4 rfl rfl rfl rfl rfl (aggV hl) (size_VV hl len_DS0) (V_one _) ?_; intro w5 hm5; simp only [List.set] at hm5; clear hm4)
    | (refine wpList_run rfl (exec_loadcell' (off := 257) rfl rfl (hm5.row 2 rfl) one3 (getV2 hl)) ?_)
    | (refine wpList_run rfl (exec_loadcell' (off := 256) rfl rfl (hm5.row 2 rfl) one3 (getV1 hl)) ?_))
  have hm6 := hm5.addNil 5
  clear hm5
  go_loopw [13, 14] (fun o u wr => ∃ (i : Nat) (ao : Option Addr) (co : Nat), i ≤ K ∧ u = .int .i64 i ∧ o = .slice ao i co ∧ Own w wr [(g4, V b), (g2, V DS0), (g, V b)] [(.slice ao i co, 5, vs .u8 (List.replicate i (gi b.l 0)))]) (fun _ u _ => K - (intOf u).toNat)
  case atStart => exact ⟨0, none, 0, by omega, rfl, rfl, hm6⟩
  case round =>
    obtain ⟨i, ao, co, hi, rfl, rfl, hmr⟩ := hrel
    clear hm6
    have hlen : (vs .u8 (List.replicate i (gi b.l 0))).length = i := by rw [length_vs, List.length_replicate]
    by_cases hlt : i < K
    · have hz : ((i : Int) < (K : Int)) := by omega
      have HLEN := Lib.hid hlen
      go_wp2_with (first
        | (refine wpList_run rfl (exec_loadcell' (off := 257) rfl rfl (hmr.row 2 rfl) one3 G2) ?_)
        | (refine wpList_run rfl (exec_loadcell' (off := 0) rfl rfl (hmr.row 2 rfl) one5 (getV0 hl 0 (by omega))) ?_)
        | (refine wpList_build1_o (v := .int .u8 (gi b.l 0)) hmr rfl rfl HE.out rfl rfl ?_; intro w7 g7 hm7; clear hmr)
        | (refine wpList_append_o 0 hm7 rfl rfl HE.out rfl rfl rfl (Src.one (hm7.row 0 rfl)) (one_list _ rfl) (by simp only [length_vs, List.length_replicate, List.length_cons, List.length_nil]; omega) (by simp only [length_vs, List.length_replicate, List.length_cons, List.length_nil]; omega) ?_; intro ad8 c8 w8 hm8; simp only [List.set] at hm8; clear hm7))
      go_roundw
      case rel =>
        have hs := hm8.dropRow
        rw [show vs .u8 (List.replicate i (gi b.l 0)) ++ [Value.int .u8 (gi b.l 0)] = vs .u8 (List.replicate (i + 1) (gi b.l 0)) by rw [List.replicate_succ', vs_append]; rfl, HLEN.out] at hs
        exact ⟨i + 1, ad8, c8, by omega, by go_num, rfl, hs⟩
      case measure => simp [intOf]; omega
    · obtain rfl : K = i := by omega
      have CT : Hid (∀ w, Calls Try.prog 24 #[.agg (B b.l), .int .i64 (s - 1)] w fun e w' => (e = .returned (.tuple #[.agg (B (takeL b.l (s - 1))), .int .u8 (takeC b.l (s - 1)), .bool (takeB (s - 1))])) ∧ Below w.heap.size w w') := Lib.hid fun w => rtake_any b.l (s - 1) w hl
      have hm1 : (takeL b.l (s - 1)).length = 256 := len_takeL _ _ hl
      have hw : IntKind.i64.wrap (s - 1) = s - 1 := IntWalk.i64_in _ (by omega)
      have HLEN := Lib.hid hlen
      have hw2 : IntKind.i64.wrap (b.left - ((K : Int) + 1)) = b.left - ((K : Int) + 1) := IntWalk.i64_in _ (by have := HL.out; omega)
      generalize takeL b.l (s - 1) = M at *
      generalize takeC b.l (s - 1) = c at *
      generalize takeB (s - 1) = f at *
      generalize hR : List.replicate K (gi b.l 0) = R at *
      have hR2 : R.length = K := by rw [← hR, List.length_replicate]
      have HR := Lib.hid hR
      have HR2 := Lib.hid hR2
      have hRb : R.length ≤ 65536 := by omega
      have hw3 : IntKind.i64.wrap (b.left - (((vs .u8 R).length : Int) + 1)) = b.left - ((R.length : Int) + 1) := by rw [length_vs, hR2]; exact hw2
      clear hR hlen hR2 hw2
      go_wp2_with (first
        | (refine wpList_run rfl (exec_loadcell' (off := 257) rfl rfl (hmr.row 2 rfl) one3 G2) ?_)
        | (refine wpList_load_part rfl rfl rfl (hmr.row 2 rfl) (aggB _ hl) (extract_V hl) (fitV hl) ?_)
        | (go_at_call 24; have _t := hmr; refine (CT.out _).mono ?_; rintro e w7 ⟨rfl, hb7⟩; have hm7 := hmr.call hb7; clear hmr)
        | (refine wpList_alloc_o hm7 rfl rfl zero23 ?_; intro w8 g8 hm8; clear hm7)
        | (refine wpList_store_o 0 hm8 rfl rfl rfl rfl rfl (aggB _ hm1) (size_BB _ _ hm1 len_zeros) (B_one _) ?_; intro w9 hm9; simp only [List.set] at hm9; clear hm8)
        | (refine wpList_build1_o (v := .int .u8 c) hm9 rfl rfl HE.out rfl rfl ?_; intro w10 g10 hm10; clear hm9)
        | (refine wpList_append_o 0 hm10 rfl rfl HE.out rfl rfl rfl (Src.one (hm10.row 0 rfl)) (one_list _ rfl) (by simp only [length_vs, List.length_cons, List.length_nil]; omega) (by simp only [length_vs, List.length_cons, List.length_nil]; omega) ?_; intro ad11 c11 w11 hm11; simp only [List.set] at hm11; clear hm10)
        | (refine wpList_load_all rfl rfl rfl (hm11.row 1 rfl) (aggB _ hm1) ?_)
        | (refine wpList_run rfl (exec_loadcell' (off := 256) rfl rfl (hm11.row 4 rfl) one3 (getV1 hl)) ?_)
        | (refine wpList_run rfl (exec_build70_1 rfl rfl rfl hm1) ?_)
        | (refine wpList_store_o 2 hm11 rfl rfl rfl rfl rfl (aggV (b := ⟨M, b.left - ((R.length : Int) + 1), 0, 0, false⟩) hm1) (size_VV (b := ⟨M, b.left - ((R.length : Int) + 1), 0, 0, false⟩) hm1 hl) (V_one _) ?_; intro w12 hm12; simp only [List.set] at hm12; clear hm11)
        | (refine wpList_load_all rfl rfl rfl (hm12.row 2 rfl) (aggV (b := ⟨M, b.left - ((R.length : Int) + 1), 0, 0, false⟩) hm1) ?_)
        | (refine wpList_store_o 3 hm12 rfl rfl rfl rfl rfl (aggV (b := ⟨M, b.left - ((R.length : Int) + 1), 0, 0, false⟩) hm1) (size_VV (b := ⟨M, b.left - ((R.length : Int) + 1), 0, 0, false⟩) hm1 len_DS0) (V_one _) ?_; intro w13 hm13; simp only [List.set] at hm13; clear hm12))
      refine bodyPost_ret (results_agg4 rfl rfl (hm13.row 3 rfl) (aggV (b := ⟨M, b.left - ((R.length : Int) + 1), 0, 0, false⟩) hm1)) rfl ?_
      rw [HREP.out, HR2.out, HK.out]
      have e : vs .u8 R ++ [Value.int .u8 c] = vs .u8 (R ++ [c]) := by rw [vs_append]; rfl
      have hs := SrcF.of_owned (hm13.get 0 rfl)
      rw [e] at hs
      exact ⟨⟨_, rfl, hs⟩, hm13.below⟩
theorem rdstep_any (b : DS) (s : Int) (w : World) (hl : b.l.length = 256) (hb : Bytes b.l) : Calls Try.prog 59 #[.agg (V b), .int .i64 s] w (DPost w (dStp b s)) := by
  have RV := fun w => rdvalid_any b w hl hb
  rw [dStp]
  cases hv : dOk b with
  | false =>
    rw [if_neg (fun h => by cases h.1)]
    exact rst_v b s w hl _ (Lib.hid (fun w => RV w)) hv
  | true =>
    have CV : Hid (∀ w, Calls Try.prog 61 #[.agg (V b)] w fun e w' => (e = .returned (.bool true)) ∧ Below w.heap.size w w') := Lib.hid (fun w => by have h := RV w; rwa [hv] at h)
    cases hf : b.fin with
    | true =>
      rw [if_neg (fun h => by cases h.2.1)]
      exact rst_f b s w hl _ CV rfl hf
    | false =>
      by_cases h3 : s < 0
      · rw [if_neg (by omega)]
        exact rst_l b s w hl _ CV rfl hf h3
      by_cases h4 : 257 < s
      · rw [if_neg (by omega)]
        exact rst_h b s w hl _ CV rfl hf h3 h4
      rw [if_pos ⟨rfl, rfl, by omega, by omega⟩]
      obtain ⟨a1, a2, a3, a4, a5, a6, a7⟩ := dOk_nums hv
      by_cases hs : s < 2
      · have hs2 : s = 0 ∨ s = 1 := by omega
        have hD : (dg b.run.toNat).length ≤ 16 := by omega
        have CD : Hid (∀ w, Calls Try.prog 35 #[.int .i64 b.run] w (ListPost w (dg b.run.toNat) 0)) := Lib.hid (fun w => by
          have h := rdigits_in b.run.toNat (by omega) w
          rwa [show ((b.run.toNat : Nat) : Int) = b.run by omega] at h)
        have CN : Hid (∀ w v, In .i64 w v (dg b.run.toNat ++ [s]) → Calls Try.prog 37 #[v] w (PairPost w (addV b.run b.dig s) 0)) := Lib.hid (fun w v hi => by
          have h := rnumber_any v _ w hi (by rw [List.length_append, List.length_singleton]; omega)
          rwa [digit_num hv hs2] at h)
        rw [dstep, if_pos hs2]
        by_cases hN : addV b.run b.dig s ≤ b.left
        · rw [if_pos (decide_eq_true hN)]
          have e2 : (({ b with run := addV b.run b.dig s, dig := b.dig + 1 }, [], b.fin, 0) : DS × List Int × Bool × Int) = ({ b with run := addV b.run b.dig s, dig := b.dig + 1 }, [], false, 0) := by rw [hf]
          show Calls Try.prog 59 _ w (DPost w ({ b with run := addV b.run b.dig s, dig := b.dig + 1 }, [], b.fin, 0))
          rw [e2]
          exact rst_dig_good b s w hl CV hf h3 h4 hs2 _ hD CD _ CN a5 (by omega) hN
        · rw [if_neg (by simpa using hN)]
          exact rst_dig_bad b s w hl CV hf h3 h4 hs2 _ hD CD _ CN a5 (by omega) hN
      · rw [dstep, if_neg (show ¬ (s = 0 ∨ s = 1) by omega)]
        by_cases h5 : s = 257
        · rw [if_pos h5]
          by_cases h6 : b.run = b.left
          · rw [if_pos (decide_eq_true h6)]
            exact rst_eob b s h5 w hl CV hf h3 h4 hs a3 a4 a2 h6
          · rw [if_neg (by simpa using h6)]
            exact rst_eq_bad1 b s w hl CV hf h3 h4 hs h5 h6
        · rw [if_neg h5]
          by_cases h6 : b.run = b.left
          · rw [if_pos h6, if_neg (fun h => by cases h)]
            exact rst_eq_bad2 b s w hl CV hf h3 h4 hs h5 h6
          · rw [if_neg h6, if_pos rfl]
            exact rst_more b s w hl CV hf h3 h4 hs a3 a4 a2 h5 h6
end Go.Proofs.Ytaccjnekonmkoaa
