/-
  The walk of winepresslaw23.PolicyLayouts.
-/
import Derived.Test.YtihocpbkibfpmaaPolW
namespace Go.Proofs.Ytihocpbkibfpmaa
open Go Go.RowKit

theorem ord_pass_l {P : Program} {ops : Array Oper} {Q : Exit → Act → World → Prop} {i : Nat} {r : List (Nat × Bool)} {S : World → Prop} {a : Act} {w : World} {o : Oper} (ho : ops.toList[i]? = some o) (hw : Region.wanted o (yielded ops a.tmps) = false) (h : wpOrd P ops Q r S (a.put o.dst undef) w) : wpOrd P ops Q ((i, true) :: r) S a w :=
  ord_pass (by rw [← Array.getElem?_toList]; exact ho) hw h
set_option maxRecDepth 100000 in
theorem lw1 (n m : Int) (w : World) (h : n < 1) : Calls Try.prog 5 #[.int .i64 n, .int .u8 m] w fun e w' => e = .returned (.bool true) ∧ Below w.heap.size w w' := by
  go_enter Try.func5, Try.ntmps5
  have hm := Own.nil w
  go_wp2_with (first
    | (go_at_call 20; have _t := hm; refine (wakes23 _).mono ?_; rintro e w1 ⟨rfl, hb1⟩; have hm1 := hm.call hb1; clear hm))
  go_ret
  exact ⟨rfl, hm1.below⟩
set_option maxRecDepth 100000 in
theorem lw2 (n m : Int) (w : World) (g0 : ¬ n < 1) (h : 65536 < n) : Calls Try.prog 5 #[.int .i64 n, .int .u8 m] w fun e w' => e = .returned (.bool true) ∧ Below w.heap.size w w' := by
  go_enter Try.func5, Try.ntmps5
  have hm := Own.nil w
  go_wp2_with (first
    | (go_at_call 20; have _t := hm; refine (wakes23 _).mono ?_; rintro e w1 ⟨rfl, hb1⟩; have hm1 := hm.call hb1; clear hm))
  go_ret
  exact ⟨rfl, hm1.below⟩
set_option maxRecDepth 100000 in
theorem lw3 (n m : Int) (w : World) (g0 : ¬ n < 1) (g1 : ¬ 65536 < n) (h : m < 1) : Calls Try.prog 5 #[.int .i64 n, .int .u8 m] w fun e w' => e = .returned (.bool true) ∧ Below w.heap.size w w' := by
  go_enter Try.func5, Try.ntmps5
  have hm := Own.nil w
  go_wp2_with (first
    | (go_at_call 20; have _t := hm; refine (wakes23 _).mono ?_; rintro e w1 ⟨rfl, hb1⟩; have hm1 := hm.call hb1; clear hm))
  go_ret
  exact ⟨rfl, hm1.below⟩
set_option maxRecDepth 100000 in
theorem lw4 (n m : Int) (w : World) (g0 : ¬ n < 1) (g1 : ¬ 65536 < n) (g2 : ¬ m < 1) (h : 3 < m) : Calls Try.prog 5 #[.int .i64 n, .int .u8 m] w fun e w' => e = .returned (.bool true) ∧ Below w.heap.size w w' := by
  go_enter Try.func5, Try.ntmps5
  have hm := Own.nil w
  go_wp2_with (first
    | (go_at_call 20; have _t := hm; refine (wakes23 _).mono ?_; rintro e w1 ⟨rfl, hb1⟩; have hm1 := hm.call hb1; clear hm))
  go_ret
  exact ⟨rfl, hm1.below⟩
set_option maxRecDepth 100000 in
set_option maxHeartbeats 2000000 in
theorem l1 (n : Int) (w : World) (g0 : ¬ n < 1) (g1 : ¬ 65536 < n) (C1 : Hid (∀ w, Calls Try.prog 7 #[.int .i64 n, .int .u8 2, .int .u8 1] w (LayPost w [n, 1024 * (n / 8192)] 0))) (C2 : Hid (∀ w, Calls Try.prog 7 #[.int .i64 n, .int .u8 1, .int .u8 1] w (LayPost w [n] 0)))
    (C3 : Hid (∀ w, Calls Try.prog 9 #[.int .i64 n, .int .u8 2, .int .u8 1] w (NeedPost w (n + 1024 * (n / 8192)) 0))) (C4 : Hid (∀ w, Calls Try.prog 15 #[.int .u8 1] w fun x w' => x = .returned (.tuple #[.int .i64 8192, .bool true]) ∧ Below w.heap.size w w')) : Calls Try.prog 5 #[.int .i64 n, .int .u8 1] w fun e w' => e = .returned (.bool true) ∧ Below w.heap.size w w' := by
  obtain ⟨i3, hE⟩ := el22
  have HE := Lib.hid hE
  clear hE
  go_enter Try.func5, Try.ntmps5
  have hm := Own.nil w
  go_wp2_with (first
    | (go_at_call 7; have _t := hm; refine (C1.out _).mono ?_; rintro e w1 ⟨⟨r1, rfl, ho1⟩, hb1⟩; obtain ⟨a1, c1, rfl⟩ := owns_shape ho1; have hm1 := hm.callSl hb1 (len_own ho1); obtain ⟨A1, rfl⟩ := Src.some (Src.of_owned (hm1.get 0 rfl)) (j := 0) (by simp); clear hm ho1)
    | (go_at_call 7; have _t := hm1; refine (C2.out _).mono ?_; rintro e w2 ⟨⟨r2, rfl, ho2⟩, hb2⟩; obtain ⟨a2, c2, rfl⟩ := owns_shape ho2; have hm2 := hm1.callSl hb2 (len_own ho2); obtain ⟨A2, rfl⟩ := Src.some (Src.of_owned (hm2.get 0 rfl)) (j := 0) (by simp); clear hm1 ho2)
    | (refine wpList_run rfl (exec_indexAddr_sl (k := 0) rfl HE.out rfl rfl rfl (by decide)) ?_)
    | (refine wpList_run rfl (exec_loadaddr rfl rfl one3 ((Src.of_owned (hm2.get 1 rfl)).at (j := 0) rfl)) ?_)
    | (refine wpList_run rfl (exec_loadaddr rfl rfl one3 ((Src.of_owned (hm2.get 0 rfl)).at (j := 0) rfl)) ?_)
    | (go_at_call 9; have _t := hm2; refine (C3.out _).mono ?_; rintro e w3 ⟨rfl, hb3⟩; have hm3 := hm2.call hb3; clear hm2)
    | (go_at_call 15; have _t := hm3; refine (C4.out _).mono ?_; rintro e w4 ⟨rfl, hb4⟩; have hm4 := hm3.call hb4; clear hm3))
  have hq1 : IntKind.i64.wrap (n.tdiv 8192) = n / 8192 := by rw [Int.tdiv_eq_ediv_of_nonneg (by omega)]; exact IntWalk.i64_in _ (by omega)
  have hq2 : IntKind.i64.wrap (1024 * (n / 8192)) = 1024 * (n / 8192) := IntWalk.i64_in _ (by omega)
  refine wp_region_ord [(0, true), (1, true), (2, true), (3, true), (4, true), (5, true), (6, true), (7, true), (8, true), (9, true), (10, true), (11, true), (12, true), (13, true), (14, true), (15, true), (16, true), (17, true), (18, true), (19, true), (20, true), (21, true), (22, true), (23, true), (24, true), (25, true), (26, true), (27, true), (28, true), (29, true)] (fun W => Src W (.slice (some A1) 2 c1) (vs .i64 [n, 1024 * (n / 8192)])) rfl (by kernel_rfl) rfl (by kernel_rfl) (fun _ _ d _ _ h => by cases d <;> exact h) (Src.of_owned ((hm4.drawn (w4.drawn + 1)).get 1 rfl)) ?_
  have hm5 := hm4.drawn (w4.drawn + 1)
  generalize ({ w4 with drawn := w4.drawn + 1 } : World) = w5 at hm5 ⊢
  clear hm4
  refine ord_read_l rfl rfl (fun W hW => by go_simp; rfl) ?_
  simp only [Act.put, List.setIfInBounds_toArray, List.set_cons_zero, List.set_cons_succ]
  refine ord_read_l rfl rfl (fun W hW => by go_simp; rfl) ?_
  simp only [Act.put, List.setIfInBounds_toArray, List.set_cons_zero, List.set_cons_succ]
  refine ord_read_l rfl rfl (fun W hW => by go_simp; rfl) ?_
  simp only [Act.put, List.setIfInBounds_toArray, List.set_cons_zero, List.set_cons_succ]
  refine ord_read_l rfl rfl (fun W hW => exec_indexAddr_sl (k := 1) rfl HE.out rfl rfl rfl (by decide)) ?_
  simp only [Act.put, List.setIfInBounds_toArray, List.set_cons_zero, List.set_cons_succ]
  refine ord_read_l rfl rfl (fun W hW => exec_loadaddr rfl rfl one3 (hW.at rfl)) ?_
  simp only [Act.put, List.setIfInBounds_toArray, List.set_cons_zero, List.set_cons_succ]
  refine ord_read_l rfl rfl (fun W hW => by go_simp; rfl) ?_
  simp only [Act.put, List.setIfInBounds_toArray, List.set_cons_zero, List.set_cons_succ]
  refine ord_read_l rfl rfl (fun W hW => by go_simp; rfl) ?_
  simp only [Act.put, List.setIfInBounds_toArray, List.set_cons_zero, List.set_cons_succ]
  refine ord_read_l rfl rfl (fun W hW => by go_simp; rfl) ?_
  simp only [Act.put, List.setIfInBounds_toArray, List.set_cons_zero, List.set_cons_succ]
  refine ord_read_l rfl rfl (fun W hW => by go_simp; rfl) ?_
  simp only [Act.put, List.setIfInBounds_toArray, List.set_cons_zero, List.set_cons_succ]
  refine ord_read_l rfl rfl (fun W hW => by go_simp; rfl) ?_
  simp only [Act.put, List.setIfInBounds_toArray, List.set_cons_zero, List.set_cons_succ]
  refine ord_read_l rfl rfl (fun W hW => by go_simp; rfl) ?_
  simp only [Act.put, List.setIfInBounds_toArray, List.set_cons_zero, List.set_cons_succ]
  refine ord_read_l rfl rfl (fun W hW => by go_simp; rfl) ?_
  simp only [Act.put, List.setIfInBounds_toArray, List.set_cons_zero, List.set_cons_succ]
  refine ord_read_l rfl rfl (fun W hW => by go_simp; rfl) ?_
  simp only [Act.put, List.setIfInBounds_toArray, List.set_cons_zero, List.set_cons_succ]
  refine ord_read_l rfl rfl (fun W hW => by go_simp; rfl) ?_
  simp only [Act.put, List.setIfInBounds_toArray, List.set_cons_zero, List.set_cons_succ]
  refine ord_read_l rfl rfl (fun W hW => by go_simp; rfl) ?_
  simp only [Act.put, List.setIfInBounds_toArray, List.set_cons_zero, List.set_cons_succ]
  refine ord_pass_l rfl rfl ?_
  simp only [Act.put, List.setIfInBounds_toArray, List.set_cons_zero, List.set_cons_succ]
  refine ord_pass_l rfl rfl ?_
  simp only [Act.put, List.setIfInBounds_toArray, List.set_cons_zero, List.set_cons_succ]
  refine ord_pass_l rfl rfl ?_
  simp only [Act.put, List.setIfInBounds_toArray, List.set_cons_zero, List.set_cons_succ]
  refine ord_pass_l rfl rfl ?_
  simp only [Act.put, List.setIfInBounds_toArray, List.set_cons_zero, List.set_cons_succ]
  refine ord_pass_l rfl rfl ?_
  simp only [Act.put, List.setIfInBounds_toArray, List.set_cons_zero, List.set_cons_succ]
  refine ord_pass_l rfl rfl ?_
  simp only [Act.put, List.setIfInBounds_toArray, List.set_cons_zero, List.set_cons_succ]
  refine ord_pass_l rfl rfl ?_
  simp only [Act.put, List.setIfInBounds_toArray, List.set_cons_zero, List.set_cons_succ]
  refine ord_read_l rfl rfl (fun W hW => by go_simp; rfl) ?_
  simp only [Act.put, List.setIfInBounds_toArray, List.set_cons_zero, List.set_cons_succ]
  refine ord_read_l rfl rfl (fun W hW => by go_simp; rfl) ?_
  simp only [Act.put, List.setIfInBounds_toArray, List.set_cons_zero, List.set_cons_succ]
  refine ord_read_l rfl rfl (fun W hW => by go_simp; rfl) ?_
  simp only [Act.put, List.setIfInBounds_toArray, List.set_cons_zero, List.set_cons_succ]
  refine ord_read_l rfl rfl (fun W hW => by go_simp; rfl) ?_
  simp only [Act.put, List.setIfInBounds_toArray, List.set_cons_zero, List.set_cons_succ]
  refine ord_read_l rfl rfl (fun W hW => by go_simp; rfl) ?_
  simp only [Act.put, List.setIfInBounds_toArray, List.set_cons_zero, List.set_cons_succ]
  refine ord_read_l rfl rfl (fun W hW => by go_simp; rfl) ?_
  simp only [Act.put, List.setIfInBounds_toArray, List.set_cons_zero, List.set_cons_succ]
  refine ord_read_l rfl rfl (fun W hW => by go_simp; rfl) ?_
  simp only [Act.put, List.setIfInBounds_toArray, List.set_cons_zero, List.set_cons_succ]
  refine ord_read_l rfl rfl (fun W hW => by go_simp; rfl) ?_
  simp only [Act.put, List.setIfInBounds_toArray, List.set_cons_zero, List.set_cons_succ]
  refine ord_nil ?_
  go_simp
  go_wp2_with (first
    | (refine wpList_run rfl (exec_indexAddr_sl (k := 1) rfl HE.out rfl rfl rfl (by decide)) ?_)
    | (refine wpList_run rfl (exec_loadaddr rfl rfl one3 ((Src.of_owned (hm5.get 1 rfl)).at (j := 1) rfl)) ?_)
    | (go_at_call 20; have _t := hm5; refine (wakes23 _).mono ?_; rintro e w6 ⟨rfl, hb6⟩; have hm6 := hm5.call hb6; clear hm5))
  go_ret
  exact ⟨rfl, hm6.below⟩
set_option maxRecDepth 100000 in
set_option maxHeartbeats 2000000 in
theorem l2 (n : Int) (w : World) (g0 : ¬ n < 1) (g1 : ¬ 65536 < n) (C1 : Hid (∀ w, Calls Try.prog 7 #[.int .i64 n, .int .u8 2, .int .u8 2] w (LayPost w [n, 1024 * (n / 1024)] 0))) (C2 : Hid (∀ w, Calls Try.prog 7 #[.int .i64 n, .int .u8 1, .int .u8 2] w (LayPost w [n] 0)))
    (C3 : Hid (∀ w, Calls Try.prog 9 #[.int .i64 n, .int .u8 2, .int .u8 2] w (NeedPost w (n + 1024 * (n / 1024)) 0))) (C4 : Hid (∀ w, Calls Try.prog 15 #[.int .u8 2] w fun x w' => x = .returned (.tuple #[.int .i64 1024, .bool true]) ∧ Below w.heap.size w w')) : Calls Try.prog 5 #[.int .i64 n, .int .u8 2] w fun e w' => e = .returned (.bool true) ∧ Below w.heap.size w w' := by
  obtain ⟨i3, hE⟩ := el22
  have HE := Lib.hid hE
  clear hE
  go_enter Try.func5, Try.ntmps5
  have hm := Own.nil w
  go_wp2_with (first
    | (go_at_call 7; have _t := hm; refine (C1.out _).mono ?_; rintro e w1 ⟨⟨r1, rfl, ho1⟩, hb1⟩; obtain ⟨a1, c1, rfl⟩ := owns_shape ho1; have hm1 := hm.callSl hb1 (len_own ho1); obtain ⟨A1, rfl⟩ := Src.some (Src.of_owned (hm1.get 0 rfl)) (j := 0) (by simp); clear hm ho1)
    | (go_at_call 7; have _t := hm1; refine (C2.out _).mono ?_; rintro e w2 ⟨⟨r2, rfl, ho2⟩, hb2⟩; obtain ⟨a2, c2, rfl⟩ := owns_shape ho2; have hm2 := hm1.callSl hb2 (len_own ho2); obtain ⟨A2, rfl⟩ := Src.some (Src.of_owned (hm2.get 0 rfl)) (j := 0) (by simp); clear hm1 ho2)
    | (refine wpList_run rfl (exec_indexAddr_sl (k := 0) rfl HE.out rfl rfl rfl (by decide)) ?_)
    | (refine wpList_run rfl (exec_loadaddr rfl rfl one3 ((Src.of_owned (hm2.get 1 rfl)).at (j := 0) rfl)) ?_)
    | (refine wpList_run rfl (exec_loadaddr rfl rfl one3 ((Src.of_owned (hm2.get 0 rfl)).at (j := 0) rfl)) ?_)
    | (go_at_call 9; have _t := hm2; refine (C3.out _).mono ?_; rintro e w3 ⟨rfl, hb3⟩; have hm3 := hm2.call hb3; clear hm2)
    | (go_at_call 15; have _t := hm3; refine (C4.out _).mono ?_; rintro e w4 ⟨rfl, hb4⟩; have hm4 := hm3.call hb4; clear hm3))
  have hq1 : IntKind.i64.wrap (n.tdiv 1024) = n / 1024 := by rw [Int.tdiv_eq_ediv_of_nonneg (by omega)]; exact IntWalk.i64_in _ (by omega)
  have hq2 : IntKind.i64.wrap (1024 * (n / 1024)) = 1024 * (n / 1024) := IntWalk.i64_in _ (by omega)
  refine wp_region_ord [(0, true), (1, true), (2, true), (3, true), (4, true), (5, true), (6, true), (7, true), (8, true), (9, true), (10, true), (11, true), (12, true), (13, true), (14, true), (15, true), (16, true), (17, true), (18, true), (19, true), (20, true), (21, true), (22, true), (23, true), (24, true), (25, true), (26, true), (27, true), (28, true), (29, true)] (fun W => Src W (.slice (some A1) 2 c1) (vs .i64 [n, 1024 * (n / 1024)])) rfl (by kernel_rfl) rfl (by kernel_rfl) (fun _ _ d _ _ h => by cases d <;> exact h) (Src.of_owned ((hm4.drawn (w4.drawn + 1)).get 1 rfl)) ?_
  have hm5 := hm4.drawn (w4.drawn + 1)
  generalize ({ w4 with drawn := w4.drawn + 1 } : World) = w5 at hm5 ⊢
  clear hm4
  refine ord_read_l rfl rfl (fun W hW => by go_simp; rfl) ?_
  simp only [Act.put, List.setIfInBounds_toArray, List.set_cons_zero, List.set_cons_succ]
  refine ord_read_l rfl rfl (fun W hW => by go_simp; rfl) ?_
  simp only [Act.put, List.setIfInBounds_toArray, List.set_cons_zero, List.set_cons_succ]
  refine ord_read_l rfl rfl (fun W hW => by go_simp; rfl) ?_
  simp only [Act.put, List.setIfInBounds_toArray, List.set_cons_zero, List.set_cons_succ]
  refine ord_read_l rfl rfl (fun W hW => exec_indexAddr_sl (k := 1) rfl HE.out rfl rfl rfl (by decide)) ?_
  simp only [Act.put, List.setIfInBounds_toArray, List.set_cons_zero, List.set_cons_succ]
  refine ord_read_l rfl rfl (fun W hW => exec_loadaddr rfl rfl one3 (hW.at rfl)) ?_
  simp only [Act.put, List.setIfInBounds_toArray, List.set_cons_zero, List.set_cons_succ]
  refine ord_read_l rfl rfl (fun W hW => by go_simp; rfl) ?_
  simp only [Act.put, List.setIfInBounds_toArray, List.set_cons_zero, List.set_cons_succ]
  refine ord_read_l rfl rfl (fun W hW => by go_simp; rfl) ?_
  simp only [Act.put, List.setIfInBounds_toArray, List.set_cons_zero, List.set_cons_succ]
  refine ord_read_l rfl rfl (fun W hW => by go_simp; rfl) ?_
  simp only [Act.put, List.setIfInBounds_toArray, List.set_cons_zero, List.set_cons_succ]
  refine ord_read_l rfl rfl (fun W hW => by go_simp; rfl) ?_
  simp only [Act.put, List.setIfInBounds_toArray, List.set_cons_zero, List.set_cons_succ]
  refine ord_read_l rfl rfl (fun W hW => by go_simp; rfl) ?_
  simp only [Act.put, List.setIfInBounds_toArray, List.set_cons_zero, List.set_cons_succ]
  refine ord_read_l rfl rfl (fun W hW => by go_simp; rfl) ?_
  simp only [Act.put, List.setIfInBounds_toArray, List.set_cons_zero, List.set_cons_succ]
  refine ord_read_l rfl rfl (fun W hW => by go_simp; rfl) ?_
  simp only [Act.put, List.setIfInBounds_toArray, List.set_cons_zero, List.set_cons_succ]
  refine ord_read_l rfl rfl (fun W hW => by go_simp; rfl) ?_
  simp only [Act.put, List.setIfInBounds_toArray, List.set_cons_zero, List.set_cons_succ]
  refine ord_read_l rfl rfl (fun W hW => by go_simp; rfl) ?_
  simp only [Act.put, List.setIfInBounds_toArray, List.set_cons_zero, List.set_cons_succ]
  refine ord_read_l rfl rfl (fun W hW => by go_simp; rfl) ?_
  simp only [Act.put, List.setIfInBounds_toArray, List.set_cons_zero, List.set_cons_succ]
  refine ord_pass_l rfl rfl ?_
  simp only [Act.put, List.setIfInBounds_toArray, List.set_cons_zero, List.set_cons_succ]
  refine ord_pass_l rfl rfl ?_
  simp only [Act.put, List.setIfInBounds_toArray, List.set_cons_zero, List.set_cons_succ]
  refine ord_pass_l rfl rfl ?_
  simp only [Act.put, List.setIfInBounds_toArray, List.set_cons_zero, List.set_cons_succ]
  refine ord_pass_l rfl rfl ?_
  simp only [Act.put, List.setIfInBounds_toArray, List.set_cons_zero, List.set_cons_succ]
  refine ord_pass_l rfl rfl ?_
  simp only [Act.put, List.setIfInBounds_toArray, List.set_cons_zero, List.set_cons_succ]
  refine ord_pass_l rfl rfl ?_
  simp only [Act.put, List.setIfInBounds_toArray, List.set_cons_zero, List.set_cons_succ]
  refine ord_pass_l rfl rfl ?_
  simp only [Act.put, List.setIfInBounds_toArray, List.set_cons_zero, List.set_cons_succ]
  refine ord_read_l rfl rfl (fun W hW => by go_simp; rfl) ?_
  simp only [Act.put, List.setIfInBounds_toArray, List.set_cons_zero, List.set_cons_succ]
  refine ord_read_l rfl rfl (fun W hW => by go_simp; rfl) ?_
  simp only [Act.put, List.setIfInBounds_toArray, List.set_cons_zero, List.set_cons_succ]
  refine ord_read_l rfl rfl (fun W hW => by go_simp; rfl) ?_
  simp only [Act.put, List.setIfInBounds_toArray, List.set_cons_zero, List.set_cons_succ]
  refine ord_read_l rfl rfl (fun W hW => by go_simp; rfl) ?_
  simp only [Act.put, List.setIfInBounds_toArray, List.set_cons_zero, List.set_cons_succ]
  refine ord_read_l rfl rfl (fun W hW => by go_simp; rfl) ?_
  simp only [Act.put, List.setIfInBounds_toArray, List.set_cons_zero, List.set_cons_succ]
  refine ord_read_l rfl rfl (fun W hW => by go_simp; rfl) ?_
  simp only [Act.put, List.setIfInBounds_toArray, List.set_cons_zero, List.set_cons_succ]
  refine ord_read_l rfl rfl (fun W hW => by go_simp; rfl) ?_
  simp only [Act.put, List.setIfInBounds_toArray, List.set_cons_zero, List.set_cons_succ]
  refine ord_read_l rfl rfl (fun W hW => by go_simp; rfl) ?_
  simp only [Act.put, List.setIfInBounds_toArray, List.set_cons_zero, List.set_cons_succ]
  refine ord_nil ?_
  go_simp
  go_wp2_with (first
    | (refine wpList_run rfl (exec_indexAddr_sl (k := 1) rfl HE.out rfl rfl rfl (by decide)) ?_)
    | (refine wpList_run rfl (exec_loadaddr rfl rfl one3 ((Src.of_owned (hm5.get 1 rfl)).at (j := 1) rfl)) ?_)
    | (go_at_call 20; have _t := hm5; refine (wakes23 _).mono ?_; rintro e w6 ⟨rfl, hb6⟩; have hm6 := hm5.call hb6; clear hm5))
  go_ret
  exact ⟨rfl, hm6.below⟩
set_option maxRecDepth 100000 in
set_option maxHeartbeats 2000000 in
theorem l3lo (n : Int) (w : World) (g0 : ¬ n < 1) (g1 : ¬ 65536 < n) (g3 : ¬ 1024 < n + 1) (C1 : Hid (∀ w, Calls Try.prog 7 #[.int .i64 n, .int .u8 2, .int .u8 3] w (LayPost w [n, 4 * (n + 1)] 0))) (C2 : Hid (∀ w, Calls Try.prog 7 #[.int .i64 n, .int .u8 1, .int .u8 3] w (LayPost w [n, n, 4 * (n + 1)] 0)))
    (C3 : Hid (∀ w, Calls Try.prog 9 #[.int .i64 n, .int .u8 2, .int .u8 3] w (NeedPost w (n + 4 * (n + 1)) 0))) (C4 : Hid (∀ w, Calls Try.prog 15 #[.int .u8 3] w fun x w' => x = .returned (.tuple #[.int .i64 0, .bool false]) ∧ Below w.heap.size w w')) : Calls Try.prog 5 #[.int .i64 n, .int .u8 3] w fun e w' => e = .returned (.bool true) ∧ Below w.heap.size w w' := by
  obtain ⟨i3, hE⟩ := el22
  have HE := Lib.hid hE
  clear hE
  go_enter Try.func5, Try.ntmps5
  have hm := Own.nil w
  go_wp2_with (first
    | (go_at_call 7; have _t := hm; refine (C1.out _).mono ?_; rintro e w1 ⟨⟨r1, rfl, ho1⟩, hb1⟩; obtain ⟨a1, c1, rfl⟩ := owns_shape ho1; have hm1 := hm.callSl hb1 (len_own ho1); obtain ⟨A1, rfl⟩ := Src.some (Src.of_owned (hm1.get 0 rfl)) (j := 0) (by simp); clear hm ho1)
    | (go_at_call 7; have _t := hm1; refine (C2.out _).mono ?_; rintro e w2 ⟨⟨r2, rfl, ho2⟩, hb2⟩; obtain ⟨a2, c2, rfl⟩ := owns_shape ho2; have hm2 := hm1.callSl hb2 (len_own ho2); obtain ⟨A2, rfl⟩ := Src.some (Src.of_owned (hm2.get 0 rfl)) (j := 0) (by simp); clear hm1 ho2)
    | (refine wpList_run rfl (exec_indexAddr_sl (k := 0) rfl HE.out rfl rfl rfl (by decide)) ?_)
    | (refine wpList_run rfl (exec_loadaddr rfl rfl one3 ((Src.of_owned (hm2.get 1 rfl)).at (j := 0) rfl)) ?_)
    | (refine wpList_run rfl (exec_loadaddr rfl rfl one3 ((Src.of_owned (hm2.get 0 rfl)).at (j := 0) rfl)) ?_)
    | (go_at_call 9; have _t := hm2; refine (C3.out _).mono ?_; rintro e w3 ⟨rfl, hb3⟩; have hm3 := hm2.call hb3; clear hm2)
    | (go_at_call 15; have _t := hm3; refine (C4.out _).mono ?_; rintro e w4 ⟨rfl, hb4⟩; have hm4 := hm3.call hb4; clear hm3))
  have hq1 : IntKind.i64.wrap (n + 1) = n + 1 := IntWalk.i64_in _ (by omega)
  have hq2 : IntKind.i64.wrap (4 * (n + 1)) = 4 * (n + 1) := IntWalk.i64_in _ (by omega)
  refine wp_region_ord [(0, true), (1, true), (2, true), (3, true), (4, true), (5, true), (6, true), (7, true), (8, true), (9, true), (10, true), (11, true), (12, true), (13, true), (14, true), (15, true), (16, true), (17, true), (18, true), (19, true), (20, true), (21, true), (22, true), (23, true), (24, true), (25, true), (26, true), (27, true), (28, true), (29, true)] (fun W => Src W (.slice (some A1) 2 c1) (vs .i64 [n, 4 * (n + 1)])) rfl (by kernel_rfl) rfl (by kernel_rfl) (fun _ _ d _ _ h => by cases d <;> exact h) (Src.of_owned ((hm4.drawn (w4.drawn + 1)).get 1 rfl)) ?_
  have hm5 := hm4.drawn (w4.drawn + 1)
  generalize ({ w4 with drawn := w4.drawn + 1 } : World) = w5 at hm5 ⊢
  clear hm4
  refine ord_read_l rfl rfl (fun W hW => by go_simp; rfl) ?_
  simp only [Act.put, List.setIfInBounds_toArray, List.set_cons_zero, List.set_cons_succ]
  refine ord_read_l rfl rfl (fun W hW => by go_simp; rfl) ?_
  simp only [Act.put, List.setIfInBounds_toArray, List.set_cons_zero, List.set_cons_succ]
  refine ord_pass_l rfl rfl ?_
  simp only [Act.put, List.setIfInBounds_toArray, List.set_cons_zero, List.set_cons_succ]
  refine ord_pass_l rfl rfl ?_
  simp only [Act.put, List.setIfInBounds_toArray, List.set_cons_zero, List.set_cons_succ]
  refine ord_pass_l rfl rfl ?_
  simp only [Act.put, List.setIfInBounds_toArray, List.set_cons_zero, List.set_cons_succ]
  refine ord_pass_l rfl rfl ?_
  simp only [Act.put, List.setIfInBounds_toArray, List.set_cons_zero, List.set_cons_succ]
  refine ord_pass_l rfl rfl ?_
  simp only [Act.put, List.setIfInBounds_toArray, List.set_cons_zero, List.set_cons_succ]
  refine ord_pass_l rfl rfl ?_
  simp only [Act.put, List.setIfInBounds_toArray, List.set_cons_zero, List.set_cons_succ]
  refine ord_pass_l rfl rfl ?_
  simp only [Act.put, List.setIfInBounds_toArray, List.set_cons_zero, List.set_cons_succ]
  refine ord_pass_l rfl rfl ?_
  simp only [Act.put, List.setIfInBounds_toArray, List.set_cons_zero, List.set_cons_succ]
  refine ord_read_l rfl rfl (fun W hW => by go_simp; rfl) ?_
  simp only [Act.put, List.setIfInBounds_toArray, List.set_cons_zero, List.set_cons_succ]
  refine ord_read_l rfl rfl (fun W hW => by go_simp; rfl) ?_
  simp only [Act.put, List.setIfInBounds_toArray, List.set_cons_zero, List.set_cons_succ]
  refine ord_read_l rfl rfl (fun W hW => by go_simp; rfl) ?_
  simp only [Act.put, List.setIfInBounds_toArray, List.set_cons_zero, List.set_cons_succ]
  refine ord_read_l rfl rfl (fun W hW => by go_simp; rfl) ?_
  simp only [Act.put, List.setIfInBounds_toArray, List.set_cons_zero, List.set_cons_succ]
  refine ord_read_l rfl rfl (fun W hW => by go_simp; rfl) ?_
  simp only [Act.put, List.setIfInBounds_toArray, List.set_cons_zero, List.set_cons_succ]
  refine ord_read_l rfl rfl (fun W hW => by go_simp; rfl) ?_
  simp only [Act.put, List.setIfInBounds_toArray, List.set_cons_zero, List.set_cons_succ]
  refine ord_read_l rfl rfl (fun W hW => exec_indexAddr_sl (k := 1) rfl HE.out rfl rfl rfl (by decide)) ?_
  simp only [Act.put, List.setIfInBounds_toArray, List.set_cons_zero, List.set_cons_succ]
  refine ord_read_l rfl rfl (fun W hW => exec_loadaddr rfl rfl one3 (hW.at rfl)) ?_
  simp only [Act.put, List.setIfInBounds_toArray, List.set_cons_zero, List.set_cons_succ]
  refine ord_read_l rfl rfl (fun W hW => by go_simp; rfl) ?_
  simp only [Act.put, List.setIfInBounds_toArray, List.set_cons_zero, List.set_cons_succ]
  refine ord_read_l rfl rfl (fun W hW => by go_simp; rfl) ?_
  simp only [Act.put, List.setIfInBounds_toArray, List.set_cons_zero, List.set_cons_succ]
  refine ord_read_l rfl rfl (fun W hW => by go_simp; rfl) ?_
  simp only [Act.put, List.setIfInBounds_toArray, List.set_cons_zero, List.set_cons_succ]
  refine ord_read_l rfl rfl (fun W hW => by go_simp; rfl) ?_
  simp only [Act.put, List.setIfInBounds_toArray, List.set_cons_zero, List.set_cons_succ]
  refine ord_read_l rfl rfl (fun W hW => by go_simp; rfl) ?_
  simp only [Act.put, List.setIfInBounds_toArray, List.set_cons_zero, List.set_cons_succ]
  refine ord_read_l rfl rfl (fun W hW => by go_simp; rfl) ?_
  simp only [Act.put, List.setIfInBounds_toArray, List.set_cons_zero, List.set_cons_succ]
  refine ord_read_l rfl rfl (fun W hW => by go_simp; rfl) ?_
  simp only [Act.put, List.setIfInBounds_toArray, List.set_cons_zero, List.set_cons_succ]
  refine ord_read_l rfl rfl (fun W hW => by go_simp; rfl) ?_
  simp only [Act.put, List.setIfInBounds_toArray, List.set_cons_zero, List.set_cons_succ]
  refine ord_read_l rfl rfl (fun W hW => by go_simp; rfl) ?_
  simp only [Act.put, List.setIfInBounds_toArray, List.set_cons_zero, List.set_cons_succ]
  refine ord_read_l rfl rfl (fun W hW => by go_simp; rfl) ?_
  simp only [Act.put, List.setIfInBounds_toArray, List.set_cons_zero, List.set_cons_succ]
  refine ord_read_l rfl rfl (fun W hW => by go_simp; rfl) ?_
  simp only [Act.put, List.setIfInBounds_toArray, List.set_cons_zero, List.set_cons_succ]
  refine ord_read_l rfl rfl (fun W hW => by go_simp; rfl) ?_
  simp only [Act.put, List.setIfInBounds_toArray, List.set_cons_zero, List.set_cons_succ]
  refine ord_nil ?_
  go_simp
  go_wp2_with (first
    | (refine wpList_run rfl (exec_indexAddr_sl (k := 1) rfl HE.out rfl rfl rfl (by decide)) ?_)
    | (refine wpList_run rfl (exec_indexAddr_sl (k := 2) rfl HE.out rfl rfl rfl (by decide)) ?_)
    | (refine wpList_run rfl (exec_loadaddr rfl rfl one3 ((Src.of_owned (hm5.get 0 rfl)).at (j := 1) rfl)) ?_)
    | (refine wpList_run rfl (exec_loadaddr rfl rfl one3 ((Src.of_owned (hm5.get 0 rfl)).at (j := 2) rfl)) ?_)
    | (refine wpList_run rfl (exec_indexAddr_sl (k := 1) rfl HE.out rfl rfl rfl (by decide)) ?_)
    | (refine wpList_run rfl (exec_loadaddr rfl rfl one3 ((Src.of_owned (hm5.get 1 rfl)).at (j := 1) rfl)) ?_)
    | (go_at_call 20; have _t := hm5; refine (wakes23 _).mono ?_; rintro e w6 ⟨rfl, hb6⟩; have hm6 := hm5.call hb6; clear hm5))
  go_ret
  exact ⟨rfl, hm6.below⟩
set_option maxRecDepth 100000 in
set_option maxHeartbeats 2000000 in
theorem l3hi (n : Int) (w : World) (g0 : ¬ n < 1) (g1 : ¬ 65536 < n) (g3 : 1024 < n + 1) (C1 : Hid (∀ w, Calls Try.prog 7 #[.int .i64 n, .int .u8 2, .int .u8 3] w (LayPost w [n, 4 * (n + 1)] 0))) (C2 : Hid (∀ w, Calls Try.prog 7 #[.int .i64 n, .int .u8 1, .int .u8 3] w (LayPost w [n, n, 4 * 1024] 0)))
    (C3 : Hid (∀ w, Calls Try.prog 9 #[.int .i64 n, .int .u8 2, .int .u8 3] w (NeedPost w (n + 4 * (n + 1)) 0))) (C4 : Hid (∀ w, Calls Try.prog 15 #[.int .u8 3] w fun x w' => x = .returned (.tuple #[.int .i64 0, .bool false]) ∧ Below w.heap.size w w')) : Calls Try.prog 5 #[.int .i64 n, .int .u8 3] w fun e w' => e = .returned (.bool true) ∧ Below w.heap.size w w' := by
  obtain ⟨i3, hE⟩ := el22
  have HE := Lib.hid hE
  clear hE
  go_enter Try.func5, Try.ntmps5
  have hm := Own.nil w
  go_wp2_with (first
    | (go_at_call 7; have _t := hm; refine (C1.out _).mono ?_; rintro e w1 ⟨⟨r1, rfl, ho1⟩, hb1⟩; obtain ⟨a1, c1, rfl⟩ := owns_shape ho1; have hm1 := hm.callSl hb1 (len_own ho1); obtain ⟨A1, rfl⟩ := Src.some (Src.of_owned (hm1.get 0 rfl)) (j := 0) (by simp); clear hm ho1)
    | (go_at_call 7; have _t := hm1; refine (C2.out _).mono ?_; rintro e w2 ⟨⟨r2, rfl, ho2⟩, hb2⟩; obtain ⟨a2, c2, rfl⟩ := owns_shape ho2; have hm2 := hm1.callSl hb2 (len_own ho2); obtain ⟨A2, rfl⟩ := Src.some (Src.of_owned (hm2.get 0 rfl)) (j := 0) (by simp); clear hm1 ho2)
    | (refine wpList_run rfl (exec_indexAddr_sl (k := 0) rfl HE.out rfl rfl rfl (by decide)) ?_)
    | (refine wpList_run rfl (exec_loadaddr rfl rfl one3 ((Src.of_owned (hm2.get 1 rfl)).at (j := 0) rfl)) ?_)
    | (refine wpList_run rfl (exec_loadaddr rfl rfl one3 ((Src.of_owned (hm2.get 0 rfl)).at (j := 0) rfl)) ?_)
    | (go_at_call 9; have _t := hm2; refine (C3.out _).mono ?_; rintro e w3 ⟨rfl, hb3⟩; have hm3 := hm2.call hb3; clear hm2)
    | (go_at_call 15; have _t := hm3; refine (C4.out _).mono ?_; rintro e w4 ⟨rfl, hb4⟩; have hm4 := hm3.call hb4; clear hm3))
  have hq1 : IntKind.i64.wrap (n + 1) = n + 1 := IntWalk.i64_in _ (by omega)
  have hq2 : IntKind.i64.wrap (4 * (n + 1)) = 4 * (n + 1) := IntWalk.i64_in _ (by omega)
  refine wp_region_ord [(0, true), (1, true), (2, true), (3, true), (4, true), (5, true), (6, true), (7, true), (8, true), (9, true), (10, true), (11, true), (12, true), (13, true), (14, true), (15, true), (16, true), (17, true), (18, true), (19, true), (20, true), (21, true), (22, true), (23, true), (24, true), (25, true), (26, true), (27, true), (28, true), (29, true)] (fun W => Src W (.slice (some A1) 2 c1) (vs .i64 [n, 4 * (n + 1)])) rfl (by kernel_rfl) rfl (by kernel_rfl) (fun _ _ d _ _ h => by cases d <;> exact h) (Src.of_owned ((hm4.drawn (w4.drawn + 1)).get 1 rfl)) ?_
  have hm5 := hm4.drawn (w4.drawn + 1)
  generalize ({ w4 with drawn := w4.drawn + 1 } : World) = w5 at hm5 ⊢
  clear hm4
  refine ord_read_l rfl rfl (fun W hW => by go_simp; rfl) ?_
  simp only [Act.put, List.setIfInBounds_toArray, List.set_cons_zero, List.set_cons_succ]
  refine ord_read_l rfl rfl (fun W hW => by go_simp; rfl) ?_
  simp only [Act.put, List.setIfInBounds_toArray, List.set_cons_zero, List.set_cons_succ]
  refine ord_pass_l rfl rfl ?_
  simp only [Act.put, List.setIfInBounds_toArray, List.set_cons_zero, List.set_cons_succ]
  refine ord_pass_l rfl rfl ?_
  simp only [Act.put, List.setIfInBounds_toArray, List.set_cons_zero, List.set_cons_succ]
  refine ord_pass_l rfl rfl ?_
  simp only [Act.put, List.setIfInBounds_toArray, List.set_cons_zero, List.set_cons_succ]
  refine ord_pass_l rfl rfl ?_
  simp only [Act.put, List.setIfInBounds_toArray, List.set_cons_zero, List.set_cons_succ]
  refine ord_pass_l rfl rfl ?_
  simp only [Act.put, List.setIfInBounds_toArray, List.set_cons_zero, List.set_cons_succ]
  refine ord_pass_l rfl rfl ?_
  simp only [Act.put, List.setIfInBounds_toArray, List.set_cons_zero, List.set_cons_succ]
  refine ord_pass_l rfl rfl ?_
  simp only [Act.put, List.setIfInBounds_toArray, List.set_cons_zero, List.set_cons_succ]
  refine ord_pass_l rfl rfl ?_
  simp only [Act.put, List.setIfInBounds_toArray, List.set_cons_zero, List.set_cons_succ]
  refine ord_read_l rfl rfl (fun W hW => by go_simp; rfl) ?_
  simp only [Act.put, List.setIfInBounds_toArray, List.set_cons_zero, List.set_cons_succ]
  refine ord_read_l rfl rfl (fun W hW => by go_simp; rfl) ?_
  simp only [Act.put, List.setIfInBounds_toArray, List.set_cons_zero, List.set_cons_succ]
  refine ord_read_l rfl rfl (fun W hW => by go_simp; rfl) ?_
  simp only [Act.put, List.setIfInBounds_toArray, List.set_cons_zero, List.set_cons_succ]
  refine ord_read_l rfl rfl (fun W hW => by go_simp; rfl) ?_
  simp only [Act.put, List.setIfInBounds_toArray, List.set_cons_zero, List.set_cons_succ]
  refine ord_read_l rfl rfl (fun W hW => by go_simp; rfl) ?_
  simp only [Act.put, List.setIfInBounds_toArray, List.set_cons_zero, List.set_cons_succ]
  refine ord_read_l rfl rfl (fun W hW => by go_simp; rfl) ?_
  simp only [Act.put, List.setIfInBounds_toArray, List.set_cons_zero, List.set_cons_succ]
  refine ord_read_l rfl rfl (fun W hW => exec_indexAddr_sl (k := 1) rfl HE.out rfl rfl rfl (by decide)) ?_
  simp only [Act.put, List.setIfInBounds_toArray, List.set_cons_zero, List.set_cons_succ]
  refine ord_read_l rfl rfl (fun W hW => exec_loadaddr rfl rfl one3 (hW.at rfl)) ?_
  simp only [Act.put, List.setIfInBounds_toArray, List.set_cons_zero, List.set_cons_succ]
  refine ord_read_l rfl rfl (fun W hW => by go_simp; rfl) ?_
  simp only [Act.put, List.setIfInBounds_toArray, List.set_cons_zero, List.set_cons_succ]
  refine ord_read_l rfl rfl (fun W hW => by go_simp; rfl) ?_
  simp only [Act.put, List.setIfInBounds_toArray, List.set_cons_zero, List.set_cons_succ]
  refine ord_read_l rfl rfl (fun W hW => by go_simp; rfl) ?_
  simp only [Act.put, List.setIfInBounds_toArray, List.set_cons_zero, List.set_cons_succ]
  refine ord_read_l rfl rfl (fun W hW => by go_simp; rfl) ?_
  simp only [Act.put, List.setIfInBounds_toArray, List.set_cons_zero, List.set_cons_succ]
  refine ord_read_l rfl rfl (fun W hW => by go_simp; rfl) ?_
  simp only [Act.put, List.setIfInBounds_toArray, List.set_cons_zero, List.set_cons_succ]
  refine ord_read_l rfl rfl (fun W hW => by go_simp; rfl) ?_
  simp only [Act.put, List.setIfInBounds_toArray, List.set_cons_zero, List.set_cons_succ]
  refine ord_read_l rfl rfl (fun W hW => by go_simp; rfl) ?_
  simp only [Act.put, List.setIfInBounds_toArray, List.set_cons_zero, List.set_cons_succ]
  refine ord_read_l rfl rfl (fun W hW => by go_simp; rfl) ?_
  simp only [Act.put, List.setIfInBounds_toArray, List.set_cons_zero, List.set_cons_succ]
  refine ord_read_l rfl rfl (fun W hW => by go_simp; rfl) ?_
  simp only [Act.put, List.setIfInBounds_toArray, List.set_cons_zero, List.set_cons_succ]
  refine ord_read_l rfl rfl (fun W hW => by go_simp; rfl) ?_
  simp only [Act.put, List.setIfInBounds_toArray, List.set_cons_zero, List.set_cons_succ]
  refine ord_read_l rfl rfl (fun W hW => by go_simp; rfl) ?_
  simp only [Act.put, List.setIfInBounds_toArray, List.set_cons_zero, List.set_cons_succ]
  refine ord_read_l rfl rfl (fun W hW => by go_simp; rfl) ?_
  simp only [Act.put, List.setIfInBounds_toArray, List.set_cons_zero, List.set_cons_succ]
  refine ord_nil ?_
  go_simp
  go_wp2_with (first
    | (refine wpList_run rfl (exec_indexAddr_sl (k := 1) rfl HE.out rfl rfl rfl (by decide)) ?_)
    | (refine wpList_run rfl (exec_indexAddr_sl (k := 2) rfl HE.out rfl rfl rfl (by decide)) ?_)
    | (refine wpList_run rfl (exec_loadaddr rfl rfl one3 ((Src.of_owned (hm5.get 0 rfl)).at (j := 1) rfl)) ?_)
    | (refine wpList_run rfl (exec_loadaddr rfl rfl one3 ((Src.of_owned (hm5.get 0 rfl)).at (j := 2) rfl)) ?_)
    | (refine wpList_run rfl (exec_indexAddr_sl (k := 1) rfl HE.out rfl rfl rfl (by decide)) ?_)
    | (refine wpList_run rfl (exec_loadaddr rfl rfl one3 ((Src.of_owned (hm5.get 1 rfl)).at (j := 1) rfl)) ?_)
    | (go_at_call 20; have _t := hm5; refine (wakes23 _).mono ?_; rintro e w6 ⟨rfl, hb6⟩; have hm6 := hm5.call hb6; clear hm5))
  go_ret
  exact ⟨rfl, hm6.below⟩
theorem layouts23 (n m : Int) (w : World) (hm : (Lit.int .u8 m).wf = true) : Calls Try.prog 5 #[.int .i64 n, .int .u8 m] w fun e w' => e = .returned (.bool true) ∧ Below w.heap.size w w' := by
  by_cases g0 : n < 1
  · exact lw1 n m w g0
  by_cases g1 : 65536 < n
  · exact lw2 n m w g0 g1
  by_cases g2 : m < 1
  · exact lw3 n m w g0 g1 g2
  by_cases g3 : 3 < m
  · exact lw4 n m w g0 g1 g2 g3
  have k1 : argOk n 1 m := ⟨by omega, by omega, by omega, by omega⟩
  have k2 : argOk n 2 m := ⟨by omega, by omega, by omega, by omega⟩
  have C1 : ∀ w, Calls Try.prog 7 #[.int .i64 n, .int .u8 2, .int .u8 m] w (LayPost w (layD n m) 0) := fun w => by
    have := layout_any n 2 m w rfl hm
    rwa [er_ok k2, lay, if_pos k2, if_neg (by decide)] at this
  have C2 : ∀ w, Calls Try.prog 7 #[.int .i64 n, .int .u8 1, .int .u8 m] w (LayPost w (layE n m) 0) := fun w => by
    have := layout_any n 1 m w rfl hm
    rwa [er_ok k1, lay, if_pos k1, if_pos rfl] at this
  have C3 : ∀ w, Calls Try.prog 9 #[.int .i64 n, .int .u8 2, .int .u8 m] w (NeedPost w (need n 2 m) 0) := fun w => by
    have := need_any n 2 m w rfl hm
    rwa [er_ok k2] at this
  rw [need_val k2, if_neg (by decide)] at C3
  have h3 : m = 1 ∨ m = 2 ∨ m = 3 := by omega
  rcases h3 with rfl | rfl | rfl
  · exact l1 n w g0 g1 C1 C2 C3 (dist_any1)
  · exact l2 n w g0 g1 C1 C2 C3 (dist_any2)
  · have e2 : layE n 3 = [n, n, 4 * rowsOf n] := rfl
    rw [e2] at C2
    by_cases h : 1024 < n + 1
    · have e : rowsOf n = 1024 := if_pos h
      rw [e] at C2
      exact l3hi n w g0 g1 h C1 C2 C3 (fun w => dist_any3 3 w (by decide) (by decide))
    · have e : rowsOf n = n + 1 := if_neg h
      rw [e] at C2
      exact l3lo n w g0 g1 h C1 C2 C3 (fun w => dist_any3 3 w (by decide) (by decide))
end Go.Proofs.Ytihocpbkibfpmaa
